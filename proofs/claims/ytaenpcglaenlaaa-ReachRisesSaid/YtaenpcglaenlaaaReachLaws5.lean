/-
  The walk of the law ReachRises.
-/
import Derived.Test.YtaenpcglaenlaaaReachCheck
import Derived.Test.YtaenpcglaenlaaaReachAlive
namespace Go.Proofs.Ytaenpcglaenlaaa
open Go.RowKit
set_option linter.unusedVariables false
set_option linter.unusedSimpArgs false

theorem gfloor_neg (x e : Int) (he : 1 ≤ e) (hx : x < 0) : gfloor x e ≤ 0 := by
  have ⟨f1, f2, f3⟩ := emod_facts x e he
  have h1 : x / e < 0 := Int.ediv_neg_of_neg_of_pos hx (by omega)
  have h2 := Int.mul_ediv_add_emod x e
  have h3 : e * (x / e + 1) ≤ 0 := Int.mul_nonpos_of_nonneg_of_nonpos (by omega) (by omega)
  rw [Int.mul_add, Int.mul_one] at h3
  unfold gfloor; rw [if_neg (by omega)]; split <;> omega

theorem gback_eq (now keep e : Int) (hn : 0 ≤ now) (hk : 0 ≤ keep) (he : 1 ≤ e) : gback now keep e = if now < keep then 0 else (now - keep) - (now - keep) % e := by
  unfold gback; rw [if_neg (by omega)]
  split
  · have := gfloor_neg (now - keep) e he (by omega); omega
  · have ⟨f1, f2, f3⟩ := emod_facts (now - keep) e he
    have := f3 (by omega)
    unfold gfloor; rw [if_neg (by omega), if_pos (by omega)]; omega

theorem down_mono (x y e : Int) (he : 1 ≤ e) (h : x ≤ y) : x - x % e ≤ y - y % e := by
  have h1 := Int.mul_ediv_add_emod x e
  have h2 := Int.mul_ediv_add_emod y e
  have h3 : e * (x / e) ≤ e * (y / e) := Int.mul_le_mul_of_nonneg_left (Int.ediv_le_ediv (by omega) h) (by omega)
  omega

theorem down_on (x e : Int) (he : 1 ≤ e) : gon (x - x % e) e = true := by
  unfold gon; simp [he, Int.sub_emod]

theorem back_facts (now more keep e : Int) (hn : 0 ≤ now) (hm : 0 ≤ more) (he : 1 ≤ e) :
    0 ≤ gback now keep e ∧ gback now keep e ≤ gback (now + more) keep e ∧ gon (gback now keep e) e = true ∧ (0 ≤ keep → gback now keep e ≤ max (now - keep) 0) ∧ gback now keep e ≤ now := by
  by_cases hk : keep < 0
  · have h1 : ∀ x, gback x keep e = 0 := fun x => by unfold gback; rw [if_pos (by omega)]
    rw [h1, h1]
    exact ⟨by omega, by omega, by unfold gon; simp [he], by omega, hn⟩
  · have b1 := gback_eq now keep e hn (by omega) he
    have b2 := gback_eq (now + more) keep e (by omega) (by omega) he
    have ⟨f1, f2, f3⟩ := emod_facts (now - keep) e he
    have ⟨g1, g2, g3⟩ := emod_facts (now + more - keep) e he
    have h := down_mono (now - keep) (now + more - keep) e he (by omega)
    have ho := down_on (now - keep) e he
    rw [b1, b2]
    by_cases h1 : now < keep
    · rw [if_pos h1]
      refine ⟨by omega, ?_, by unfold gon; simp [he], by omega, hn⟩
      split
      · omega
      · have := g3 (by omega); omega
    · have := f3 (by omega)
      rw [if_neg h1, if_neg (by omega)]
      exact ⟨by omega, by omega, ho, by omega, by omega⟩

theorem tier_every {l : List TierV} (h : CheckOk l) (i : Nat) (hi : i < l.length) : 1 ≤ (l.getD i TierV.zero).every ∧ (l.getD i TierV.zero).every ≤ 1000000 := ⟨(h.2.2 i hi).1, (h.2.2 i hi).2.1⟩
/-- The grid on which a tier's reach lies: that of the next tier, on which its own lies. -/
theorem next_on {l : List TierV} (h : CheckOk l) (i : Nat) (hi : i < l.length) :
    1 ≤ (l.getD (min (i + 1) (l.length - 1)) TierV.zero).every ∧ (l.getD (min (i + 1) (l.length - 1)) TierV.zero).every % (l.getD i TierV.zero).every = 0 := by
  by_cases hl : i + 1 < l.length
  · rw [show min (i + 1) (l.length - 1) = i + 1 by omega]
    exact ⟨(h.2.2 _ hl).1, (h.2.2 _ hl).2.2.2.2.2 (by omega)⟩
  · rw [show min (i + 1) (l.length - 1) = i by omega]
    exact ⟨(h.2.2 _ hi).1, Int.emod_self⟩
theorem mod_trans {x a b : Int} (h1 : x % a = 0) (h2 : a % b = 0) : x % b = 0 := by
  have e1 := Int.dvd_of_emod_eq_zero h1
  have e2 := Int.dvd_of_emod_eq_zero h2
  exact Int.emod_eq_zero_of_dvd (Int.dvd_trans e2 e1)
/-- The floors of the law: brought down to their grids. -/
def flr (l : List TierV) (fl : List Int) (k : Nat) : List Int := (List.range k).map fun i => fl.getD i 0 / (l.getD i TierV.zero).every * (l.getD i TierV.zero).every
theorem flr_len (l : List TierV) (fl : List Int) (k : Nat) : (flr l fl k).length = k := by simp [flr]
theorem flr_succ (l : List TierV) (fl : List Int) (k : Nat) : flr l fl (k + 1) = flr l fl k ++ [fl.getD k 0 / (l.getD k TierV.zero).every * (l.getD k TierV.zero).every] := by simp [flr, List.range_succ]
theorem flr_get (l : List TierV) (fl : List Int) (k i : Nat) (h : i < k) : (flr l fl k).getD i 0 = fl.getD i 0 / (l.getD i TierV.zero).every * (l.getD i TierV.zero).every := by
  rw [List.getD_eq_getElem?_getD]; simp [flr, h]
theorem flr_bd {x e : Int} (h0 : 0 ≤ x) (h1 : 1 ≤ e) : 0 ≤ x / e * e ∧ x / e * e ≤ x ∧ (x / e * e) % e = 0 := by
  have h2 := Int.mul_ediv_add_emod x e
  have h3 := emod_facts x e h1
  rw [Int.mul_comm] at h2
  exact ⟨by have := h3.2.2 h0; omega, by omega, Int.mul_emod_left _ _⟩

/-- What the law says of two Reaches. -/
theorem rises (n : ByteArray) (l : List TierV) (fl : List Int) (now more t : Int) (k i : Nat) (h : CheckOk l) (hn : 0 ≤ now) (hm : 0 ≤ more) (hi : i < l.length) (hk : k ≤ l.length) (hf : ∀ j, j < k → 0 ≤ fl.getD j 0 ∧ fl.getD j 0 ≤ 2199023255552) :
    (RV.mk now n l (flr l fl k)).from i ≤ (RV.mk (now + more) n l (flr l fl k)).from i ∧ (RV.mk now n l (flr l fl k)).from i % (l.getD i TierV.zero).every = 0 ∧
    0 ≤ (RV.mk now n l (flr l fl k)).from i ∧
    ((RV.mk now n l (flr l fl k)).start i t).1 = ((RV.mk (now + more) n l (flr l fl k)).start i t).1 ∧
    (((RV.mk (now + more) n l (flr l fl k)).start i t).2 = true → ((RV.mk now n l (flr l fl k)).start i t).2 = true) ∧
    (i < k → (flr l fl k).getD i 0 ≤ (RV.mk now n l (flr l fl k)).from i) := by
  obtain ⟨ha, hb⟩ := next_on h i hi
  obtain ⟨b1, b2, b3, _, _⟩ := back_facts now more (l.getD i TierV.zero).keep _ hn hm ha
  have he := (tier_every h i hi).1
  have b4 : gback now (l.getD i TierV.zero).keep (l.getD (min (i + 1) (l.length - 1)) TierV.zero).every % (l.getD i TierV.zero).every = 0 := by
    unfold gon at b3; simp at b3; exact mod_trans b3.2 hb
  have hF : ∀ x, (RV.mk x n l (flr l fl k)).from i = (if i < k then max (gback x (l.getD i TierV.zero).keep (l.getD (min (i + 1) (l.length - 1)) TierV.zero).every) ((flr l fl k).getD i 0) else gback x (l.getD i TierV.zero).keep (l.getD (min (i + 1) (l.length - 1)) TierV.zero).every) := fun x => by
    rw [RV.from_nat _ i hi]; unfold RV.fromN RV.low; dsimp only; rw [flr_len]
  have hle : (RV.mk now n l (flr l fl k)).from i ≤ (RV.mk (now + more) n l (flr l fl k)).from i := by
    rw [hF, hF]; split <;> omega
  have hS : ∀ x, (RV.mk x n l (flr l fl k)).start i t = if 0 ≤ t then (gfloor t (l.getD i TierV.zero).every, decide ((RV.mk x n l (flr l fl k)).from i ≤ gfloor t (l.getD i TierV.zero).every)) else (0, false) := fun x => by
    have : (RV.mk x n l (flr l fl k)).is i = true := by unfold RV.is; simp; omega
    unfold RV.start; rw [this]; simp
  refine ⟨hle, ?_, ?_, ?_, ?_, ?_⟩
  · rw [hF]
    split
    · rename_i hik
      have hg := flr_get l fl k i hik
      have h3 := (flr_bd (hf i hik).1 he).2.2
      rw [← hg] at h3
      rw [Int.max_def]; split <;> assumption
    · exact b4
  · rw [hF]; split <;> omega
  · rw [hS, hS]; split <;> rfl
  · rw [hS, hS]; split <;> simp; omega
  · intro hik; rw [hF, if_pos hik]; omega

/-- A Reach whose lists are new. -/
def reachOwn (v : Value) (b : Nat) : Prop := ∃ x0 x1 a n c fa fn fc, v = .agg #[x0, x1, .slice a n c, .slice fa fn fc] ∧ ((n ≠ 0 ∧ ∃ o, a = some ⟨b, o, none⟩) ∨ (fn ≠ 0 ∧ ∃ o, fa = some ⟨b, o, none⟩))
theorem agg4_inj {a b c d a' b' c' d' : Value} (h : Value.agg #[a, b, c, d] = .agg #[a', b', c', d']) : a = a' ∧ b = b' ∧ c = c' ∧ d = d' := by
  injection h with h
  have := congrArg Array.toList h
  simpa using this
theorem reachOwn_lt {v : Value} {w : World} {b : Nat} {r : RV} (h : ReachAt w v r) (ho : reachOwn v b) : b < w.heap.size := by
  obtain ⟨tv, fv, rfl, ht, hf⟩ := h
  obtain ⟨x0, x1, a, n, c, fa, fn, fc, h1, h2⟩ := ho
  obtain ⟨_, _, e1, e2⟩ := agg4_inj h1
  subst e1 e2
  rcases h2 with ⟨hn, o, rfl⟩ | ⟨hn, o, rfl⟩
  · obtain ⟨a', c', e, _, _, h4⟩ := ht
    injection e with e1 e2 e3
    obtain ⟨b', o', e4, h5, _⟩ := h4 (by intro h; apply hn; rw [e2, h]; rfl)
    rw [← e1] at e4; injection e4 with e4; injection e4 with e4; omega
  · obtain ⟨a', c', e, _, _, h4⟩ := hf
    injection e with e1 e2 e3
    obtain ⟨b', o', e4, h5, _⟩ := h4 (by intro h; apply hn; rw [e2, h]; rfl)
    rw [← e1] at e4; injection e4 with e4; injection e4 with e4; omega
theorem reachOwn_ge {v : Value} {w : World} {B : Nat} {r : RV} (h : ReachOut B w v r) : ∀ b, reachOwn v b → B ≤ b := by
  intro b ho
  obtain ⟨tv, fv, rfl, _, _, hs1, hs2⟩ := h
  obtain ⟨x0, x1, a, n, c, fa, fn, fc, h1, h2⟩ := ho
  obtain ⟨_, _, e1, e2⟩ := agg4_inj h1
  subst e1 e2
  rcases h2 with ⟨_, o, rfl⟩ | ⟨_, o, rfl⟩
  · exact hs1 _ _ _ _ _ rfl
  · exact hs2 _ _ _ _ _ rfl
def New.reach (r : RV) : Spec Blw := .new reachOwn (fun v w => ReachAt w v r) (fun _ _ _ h hb => h.below hb) (fun _ _ _ h ho => reachOwn_lt h ho)
theorem ReachAt.frame {w w' : World} {v : Value} {r : RV} (h : ReachAt w v r) (hs : w.heap.size ≤ w'.heap.size) (hb : ∀ b, reachOwn v b → w'.heap[b]? = w.heap[b]?) : ReachAt w' v r := by
  obtain ⟨tv, fv, rfl, ht, hf⟩ := h
  obtain ⟨a, c, rfl, t1, t2, t3⟩ := ht
  obtain ⟨fa, fc, rfl, f1, f2, f3⟩ := hf
  refine ⟨_, _, rfl, ⟨a, c, rfl, t1, t2, fun hn => ?_⟩, ⟨fa, fc, rfl, f1, f2, fun hn => ?_⟩⟩
  · obtain ⟨b, o, rfl, h6, h7⟩ := t3 hn
    have hB := hb b ⟨_, _, _, _, _, _, _, _, rfl, .inl ⟨by intro h; exact hn (List.eq_nil_of_length_eq_zero h), o, rfl⟩⟩
    have hc : ∀ o', w'.cell? ⟨b, o', none⟩ = w.cell? ⟨b, o', none⟩ := fun o' => by unfold World.cell?; rw [hB]
    refine ⟨b, o, rfl, by omega, fun j hj => ?_⟩
    simp only [hc]; exact h7 j hj
  · obtain ⟨b, o, rfl, h6, h7⟩ := f3 hn
    have hB := hb b ⟨_, _, _, _, _, _, _, _, rfl, .inr ⟨by intro h; exact hn (List.eq_nil_of_length_eq_zero h), o, rfl⟩⟩
    have hc : ∀ o', w'.cell? ⟨b, o', none⟩ = w.cell? ⟨b, o', none⟩ := fun o' => by unfold World.cell?; rw [hB]
    refine ⟨b, o, rfl, by omega, fun j hj => ?_⟩
    rw [hc]; exact h7 j hj

/-- A struct of four cells that is stored. -/
def set4 (w : World) (b : Nat) (x0 x1 x2 x3 : Value) : World := (((w.setCell ⟨b, 0, none⟩ x0).setCell ⟨b, 1, none⟩ x1).setCell ⟨b, 2, none⟩ x2).setCell ⟨b, 3, none⟩ x3
theorem set4_heap {w : World} {b : Nat} {y0 y1 y2 y3 x0 x1 x2 x3 : Value} {T : TypeId} {fr : Nat × Nat} (h : w.heap[b]? = some (.cells #[y0, y1, y2, y3] T fr)) : (set4 w b x0 x1 x2 x3).heap[b]? = some (.cells #[x0, x1, x2, x3] T fr) := by
  unfold set4; rw [set_heap (set_heap (set_heap (set_heap h _) _) _) _]; rfl
theorem set4_other {w : World} {b c : Nat} {x0 x1 x2 x3 : Value} (h : c ≠ b) : (set4 w b x0 x1 x2 x3).heap[c]? = w.heap[c]? := by
  unfold set4; rw [set_heap_other _ h, set_heap_other _ h, set_heap_other _ h, set_heap_other _ h]
theorem set4_size {w : World} {b : Nat} {x0 x1 x2 x3 : Value} : (set4 w b x0 x1 x2 x3).heap.size = w.heap.size := by simp [set4]
theorem set4_below {w0 w : World} {b : Nat} {x0 x1 x2 x3 : Value} (h : Below w0.heap.size w0 w) (hb : w0.heap.size ≤ b) : Below w0.heap.size w0 (set4 w b x0 x1 x2 x3) := by
  unfold set4; exact bel_set (bel_set (bel_set (bel_set h hb) hb) hb) hb
theorem two_set {w : World} {b1 b2 : Nat} {xa ya xfa yfa : Option Addr} {xc yc xfc yfc : Nat} {ra rb : RV} (h1 : w.heap[b1]? = some (.cells #[.int .i64 0, .string ByteArray.empty, .slice none 0 0, .slice none 0 0] 34)) (h2 : w.heap[b2]? = some (.cells #[.int .i64 0, .string ByteArray.empty, .slice none 0 0, .slice none 0 0] 34)) (hne : b1 ≠ b2)
    (hA : ReachAt w (.agg #[.int .i64 ra.now, .string ra.name, .slice xa ra.l.length xc, .slice xfa ra.fl.length xfc]) ra) (hB : ReachAt w (.agg #[.int .i64 rb.now, .string rb.name, .slice ya rb.l.length yc, .slice yfa rb.fl.length yfc]) rb)
    (a1 : ∀ b, reachOwn (.agg #[.int .i64 ra.now, .string ra.name, .slice xa ra.l.length xc, .slice xfa ra.fl.length xfc]) b → b ≠ b1) (a2 : ∀ b, reachOwn (.agg #[.int .i64 ra.now, .string ra.name, .slice xa ra.l.length xc, .slice xfa ra.fl.length xfc]) b → b ≠ b2)
    (a3 : ∀ b, reachOwn (.agg #[.int .i64 rb.now, .string rb.name, .slice ya rb.l.length yc, .slice yfa rb.fl.length yfc]) b → b ≠ b1) (a4 : ∀ b, reachOwn (.agg #[.int .i64 rb.now, .string rb.name, .slice ya rb.l.length yc, .slice yfa rb.fl.length yfc]) b → b ≠ b2) :
    RBox (set4 (set4 w b1 (.int .i64 ra.now) (.string ra.name) (.slice xa ra.l.length xc) (.slice xfa ra.fl.length xfc)) b2 (.int .i64 rb.now) (.string rb.name) (.slice ya rb.l.length yc) (.slice yfa rb.fl.length yfc)) b1 xa xc xfa xfc ra ∧
    RBox (set4 (set4 w b1 (.int .i64 ra.now) (.string ra.name) (.slice xa ra.l.length xc) (.slice xfa ra.fl.length xfc)) b2 (.int .i64 rb.now) (.string rb.name) (.slice ya rb.l.length yc) (.slice yfa rb.fl.length yfc)) b2 ya yc yfa yfc rb := by
  have hsz : ∀ x : World, x = set4 (set4 w b1 (.int .i64 ra.now) (.string ra.name) (.slice xa ra.l.length xc) (.slice xfa ra.fl.length xfc)) b2 (.int .i64 rb.now) (.string rb.name) (.slice ya rb.l.length yc) (.slice yfa rb.fl.length yfc) → w.heap.size ≤ x.heap.size := by
    intro x hx; rw [hx, set4_size, set4_size]; exact Nat.le_refl _
  refine ⟨⟨?_, hA.frame (hsz _ rfl) (fun b hb => ?_)⟩, ⟨?_, hB.frame (hsz _ rfl) (fun b hb => ?_)⟩⟩
  · rw [set4_other hne]; exact set4_heap h1
  · rw [set4_other (a2 b hb), set4_other (a1 b hb)]
  · exact set4_heap ((set4_other hne.symm).trans h2)
  · rw [set4_other (a4 b hb), set4_other (a3 b hb)]

set_option maxRecDepth 100000 in
set_option maxHeartbeats 16000000 in
theorem walkReachRises (v : Value) (n : ByteArray) (l : List TierV) (now : Int) (wn : (Lit.int .i64 now).wf = true) (more : Int) (wm : (Lit.int .i64 more).wf = true) (fv : Value) (fl : List Int) (tier : Int) (wt : (Lit.int .i64 tier).wf = true) (t : Int) (wtt : (Lit.int .i64 t).wf = true) (w : World)
    (hp : PolAt w v n l) (hns : n.size ≤ 9223372036854775807) (hf : IntsAt w fv fl) :
    Calls Try.prog 3 #[v, .int .i64 now, .int .i64 more, fv, .int .i64 tier, .int .i64 t] w (BoolPost w true) := by
  obtain ⟨i0, hi, hz0, hz1, hz2⟩ := info_parts info_int
  have hn := wf64' wn
  have hm := wf64' wm
  have ht := wf64' wt
  have htt := wf64' wtt
  clear wn wm wt wtt
  have HP := Lib.hid hp
  have HFV := Lib.hid hf
  have HNS := Lib.hid hns
  obtain ⟨pv, rfl, htv⟩ := hp
  have HTV := Lib.hid htv
  obtain ⟨pa, pc, rfl, _, hpc, htc⟩ := htv
  obtain ⟨ffa, ffc, rfl, _, hfc, hfcl⟩ := hf
  have HTC := Lib.hid htc
  have HFC := Lib.hid hfcl
  obtain ⟨q, hq⟩ : ∃ q, q = smallP n l := ⟨_, rfl⟩
  have HQ := Lib.hid hq
  have KT := Lib.hid (show I64 tier from ht)
  have KTT := Lib.hid (show I64 t from htt)
  clear hq hns htc hfcl
  by_cases hin : 0 ≤ now ∧ now ≤ 2199023255552 ∧ 0 ≤ more ∧ more ≤ 2199023255552 ∧ (fl.length : Int) ≤ 10
  · obtain ⟨g1, g2, g3, g4, g5⟩ := hin
    go_enter Try.func3, Try.ntmps3
    go_wp2_with fail
    refine (small_pol _ n l _ (HP.out.below (bel_new _ _)) HNS.out).mono ?_
    rintro e w1 ⟨rfl, hb⟩
    rw [← HQ.out]
    obtain ⟨h1, hbw⟩ := one_new hb
    have H1 := Lib.hid h1
    have HB1 := Lib.hid hbw
    obtain ⟨p0, p1⟩ := row2 h1
    clear hb hbw h1
    cases q
    · go_wp2_with fail; refine (alive_any _).mono ?_; rintro e w9 ⟨rfl, hb⟩; have HB9 := Lib.hid (chain HB1.out hb); clear hb; go_wp2; go_ret; exact ⟨rfl, HB9.out⟩
    · have hsm : l.length ≤ 10 ∧ n.size ≤ 60 := by
        have h := HQ.out.symm
        unfold smallP at h
        rw [Bool.and_eq_true, decide_eq_true_eq] at h
        exact h.2
      go_wp2_with fail
      refine (check_any _ n l _ (HP.out.below HB1.out) HNS.out).mono ?_
      rintro e w2 ⟨E, ck, rfl, hck, hb⟩
      have H2 := Lib.hid (heap_step H1.out hb)
      have HB2 := Lib.hid (chain HB1.out hb)
      have HCK := Lib.hid hck
      clear hb hck p0 p1 H1 HB1
      have HB1 := HB2
      obtain ⟨p0, p1⟩ := row2 H2.out
      by_cases e0 : E = 0
      · have HOK := Lib.hid (HCK.out e0)
        subst e0
        by_cases t0 : tier < 0
        · go_wp2_with fail; refine (alive_any _).mono ?_; rintro e w9 ⟨rfl, hb⟩; have HB9 := Lib.hid (chain HB1.out hb); clear hb; go_wp2; go_ret; exact ⟨rfl, HB9.out⟩
        · by_cases t1 : (l.length : Int) ≤ tier
          · go_wp2_with fail; refine (alive_any _).mono ?_; rintro e w9 ⟨rfl, hb⟩; have HB9 := Lib.hid (chain HB1.out hb); clear hb; go_wp2; go_ret; exact ⟨rfl, HB9.out⟩
          · obtain ⟨ti, hti⟩ : ∃ ti : Nat, tier = ti := ⟨tier.toNat, by omega⟩
            subst hti
            have htl : ti < l.length := by omega
            obtain ⟨b, o, rfl, hbw, hcl⟩ := HTC.out (by intro h; rw [h] at htl; simp at htl)
            have HCL := Lib.hid hcl
            have hdl : decide (l.length ≤ ti) = false := by simp; omega
            clear hcl
            go_wp2_with fail
            go_loopw [15, 16] (fun z i wr => ∃ (k : Nat) (ao : Option Addr) (ca : Nat), k ≤ fl.length ∧ k ≤ l.length ∧ i = .int .i64 k ∧ z = .slice ao k ca ∧ Hid (wr.ownsRow (w.heap.size + 1) 3 1 (.slice ao k ca) k ((flr l fl k).map (Value.int .i64))) ∧ Hid (∀ j, j < k → 0 ≤ fl.getD j 0 ∧ fl.getD j 0 ≤ 2199023255552) ∧ Hid (wr.heap[w.heap.size]? = some (.cells #[.string n, .slice (some ⟨b, o, none⟩) l.length pc] 24)) ∧ Hid (Below w.heap.size w wr) ∧ w.heap.size + 1 ≤ wr.heap.size) (fun _ i _ => fl.length - (intOf i).toNat)
            case atStart => exact ⟨0, none, 0, Nat.zero_le _, Nat.zero_le _, rfl, rfl, Lib.hid (World.ownsRow_nil _ _ _ _), Lib.hid (fun j hj => absurd hj (Nat.not_lt_zero _)), H2, HB2, by have := heap_lt H2.out; omega⟩
            case round =>
              clear p0 p1 H2 HB2 HB1
              obtain ⟨k, ao, ca, hk, hkl, rfl, rfl, HO, HF, HPB, HB, hsz⟩ := hrel
              obtain ⟨p0, p1⟩ := row2 HPB.out
              by_cases hlt : k < fl.length ∧ k < l.length
              · obtain ⟨c1, c2⟩ := hlt
                obtain ⟨bb, oo, rfl, hbb, hcf⟩ := HFC.out (by intro h; simp [h] at c1)
                have hx := (HB.out.cell (p := ⟨bb, oo + k, none⟩) hbb).trans (hcf k c1)
                have hxI := int_ok HFV.out k c1
                obtain ⟨_, x1, _, _⟩ := HCL.out k c2
                replace x1 := (HB.out.cell (p := ⟨b, _, none⟩) hbw).trans x1
                have hev := tier_every HOK.out k c2
                have HFS := Lib.hid (flr_succ l fl k)
                obtain ⟨x, hxe⟩ : ∃ x, x = fl.getD k 0 := ⟨_, rfl⟩
                obtain ⟨ev, hee⟩ : ∃ x, x = (l.getD k TierV.zero).every := ⟨_, rfl⟩
                rw [← hxe] at hx hxI HFS
                rw [← hee] at x1 hev HFS
                have HXE := Lib.hid hxe
                unfold I64 at hxI
                have HB1 := HB
                clear hcf hxe hee
                by_cases a1 : x < 0
                · go_wp2_with fail; refine (alive_any _).mono ?_; rintro e w9 ⟨rfl, hb⟩; have HB9 := Lib.hid (chain HB1.out hb); clear hb; go_wp2; go_ret; exact ⟨rfl, HB9.out⟩
                · by_cases a2 : 2199023255552 < x
                  · go_wp2_with fail; refine (alive_any _).mono ?_; rintro e w9 ⟨rfl, hb⟩; have HB9 := Lib.hid (chain HB1.out hb); clear hb; go_wp2; go_ret; exact ⟨rfl, HB9.out⟩
                  · obtain ⟨y0, y1, _⟩ := flr_bd (x := x) (e := ev) (by omega) hev.1
                    obtain ⟨Q, hQ'⟩ : ∃ Q, x / ev = Q := ⟨_, rfl⟩
                    rw [hQ'] at y0 y1 HFS
                    obtain ⟨Y, hY⟩ : ∃ Y, Q * ev = Y := ⟨_, rfl⟩
                    rw [hY] at y0 y1 HFS
                    have hw : IntKind.i64.wrap (Q * ev) = Y := by rw [hY, IntKind.wrap_i64]; omega
                    have hne : ¬ ev = 0 := by omega
                    have hqb : 0 ≤ Q ∧ Q ≤ x := by
                      rw [← hQ']
                      exact ⟨Int.ediv_nonneg (by omega) (by omega), Int.ediv_le_self _ (by omega)⟩
                    have hwq : IntKind.i64.wrap (x.tdiv ev) = Q := by rw [Int.tdiv_eq_ediv_of_nonneg (by omega), hQ', IntKind.wrap_i64]; omega
                    have HFN := Lib.hid (show ∀ j, j < k + 1 → 0 ≤ fl.getD j 0 ∧ fl.getD j 0 ≤ 2199023255552 by
                      intro j hj
                      by_cases hjk : j < k
                      · exact HF.out j hjk
                      · obtain rfl : j = k := by omega
                        rw [← HXE.out]; omega)
                    have HYY := Lib.hid hY
                    clear hY hQ'
                    go_wp2_with fail
                    refine wp_region_inv (R := Blw) (S := (fun w' => Below wr.heap.size wr w' ∧ w'.cell? ⟨bb, oo + k, none⟩ = some (.int .i64 x) ∧ w'.cell? ⟨w.heap.size, 1, none⟩ = some (.slice (some ⟨b, o, none⟩) l.length pc) ∧ w'.cell? ⟨b, o + k * 4 + 1, none⟩ = some (.int .i64 ev))) 20 (Spec.val ?_ :: Spec.val ?_ :: Spec.val ?_ :: Spec.val ?_ :: Spec.val ?_ :: Spec.val ?_ :: Spec.val ?_ :: Spec.val ?_ :: Spec.val ?_ :: Spec.val ?_ :: Spec.val ?_ :: Spec.val ?_ :: Spec.val ?_ :: Spec.val ?_ :: Spec.val ?_ :: Spec.val ?_ :: Spec.val ?_ :: Spec.val ?_ :: Spec.val ?_ :: (.rel (fun v w => ∃ g, v = .slice (some ⟨g, 0, none⟩) 1 1 ∧ w.cell? ⟨g, 0, none⟩ = some (.int .i64 Y)) (fun v w w' ⟨g, h1, h2⟩ hb => ⟨g, h1, cell_step h2 hb⟩)) :: []) (by kernel_rfl) (by kernel_rfl) rfl (fun w1 w2 h hb => ⟨chain h.1 hb, cell_step h.2.1 hb, cell_step h.2.2.1 hb, cell_step h.2.2.2 hb⟩) (⟨(Below.refl _ _).drew, hx, p1, x1⟩) ?hm1
                    case' hm1 => skip
                    refine inv_val (i := 0) (by kernel_rfl) rfl rfl (fun w1 hS hd K hK => ?_) ?_
                    · (try dsimp only at hS); go_simp; exact hK.out _ _ (by simp only [Act.put, List.setIfInBounds_toArray, List.set_cons_zero, List.set_cons_succ, List.nil_append, List.cons_append]; rfl) (Below.refl _ _)
                    simp only [Act.put, List.setIfInBounds_toArray, List.set_cons_zero, List.set_cons_succ, List.nil_append, List.cons_append]
                    refine inv_val (i := 1) (by kernel_rfl) rfl rfl (fun w1 hS hd K hK => ?_) ?_
                    · (try dsimp only at hS); go_simp; exact hK.out _ _ (by simp only [Act.put, List.setIfInBounds_toArray, List.set_cons_zero, List.set_cons_succ, List.nil_append, List.cons_append]; rfl) (Below.refl _ _)
                    simp only [Act.put, List.setIfInBounds_toArray, List.set_cons_zero, List.set_cons_succ, List.nil_append, List.cons_append]
                    refine inv_val (i := 2) (by kernel_rfl) rfl rfl (fun w1 hS hd K hK => ?_) ?_
                    · (try dsimp only at hS); go_simp; exact hK.out _ _ (by simp only [Act.put, List.setIfInBounds_toArray, List.set_cons_zero, List.set_cons_succ, List.nil_append, List.cons_append]; rfl) (Below.refl _ _)
                    simp only [Act.put, List.setIfInBounds_toArray, List.set_cons_zero, List.set_cons_succ, List.nil_append, List.cons_append]
                    refine inv_val (i := 3) (by kernel_rfl) rfl rfl (fun w1 hS hd K hK => ?_) ?_
                    · (try dsimp only at hS); go_simp; exact hK.out _ _ (by simp only [Act.put, List.setIfInBounds_toArray, List.set_cons_zero, List.set_cons_succ, List.nil_append, List.cons_append]; rfl) (Below.refl _ _)
                    simp only [Act.put, List.setIfInBounds_toArray, List.set_cons_zero, List.set_cons_succ, List.nil_append, List.cons_append]
                    refine inv_val (i := 4) (by kernel_rfl) rfl rfl (fun w1 hS hd K hK => ?_) ?_
                    · (try dsimp only at hS); go_simp; exact hK.out _ _ (by simp only [Act.put, List.setIfInBounds_toArray, List.set_cons_zero, List.set_cons_succ, List.nil_append, List.cons_append]; rfl) (Below.refl _ _)
                    simp only [Act.put, List.setIfInBounds_toArray, List.set_cons_zero, List.set_cons_succ, List.nil_append, List.cons_append]
                    refine inv_val (i := 5) (by kernel_rfl) rfl rfl (fun w1 hS hd K hK => ?_) ?_
                    · (try dsimp only at hS); go_simp; exact hK.out _ _ (by simp only [Act.put, List.setIfInBounds_toArray, List.set_cons_zero, List.set_cons_succ, List.nil_append, List.cons_append]; rfl) (Below.refl _ _)
                    simp only [Act.put, List.setIfInBounds_toArray, List.set_cons_zero, List.set_cons_succ, List.nil_append, List.cons_append]
                    refine inv_val (i := 6) (by kernel_rfl) rfl rfl (fun w1 hS hd K hK => ?_) ?_
                    · (try dsimp only at hS); go_simp; exact hK.out _ _ (by simp only [Act.put, List.setIfInBounds_toArray, List.set_cons_zero, List.set_cons_succ, List.nil_append, List.cons_append]; rfl) (Below.refl _ _)
                    simp only [Act.put, List.setIfInBounds_toArray, List.set_cons_zero, List.set_cons_succ, List.nil_append, List.cons_append]
                    refine inv_val (i := 7) (by kernel_rfl) rfl rfl (fun w1 hS hd K hK => ?_) ?_
                    · (try dsimp only at hS); go_simp; exact hK.out _ _ (by simp only [Act.put, List.setIfInBounds_toArray, List.set_cons_zero, List.set_cons_succ, List.nil_append, List.cons_append]; rfl) (Below.refl _ _)
                    simp only [Act.put, List.setIfInBounds_toArray, List.set_cons_zero, List.set_cons_succ, List.nil_append, List.cons_append]
                    refine inv_val (i := 8) (by kernel_rfl) rfl rfl (fun w1 hS hd K hK => ?_) ?_
                    · (try dsimp only at hS); go_simp; exact hK.out _ _ (by simp only [Act.put, List.setIfInBounds_toArray, List.set_cons_zero, List.set_cons_succ, List.nil_append, List.cons_append]; rfl) (Below.refl _ _)
                    simp only [Act.put, List.setIfInBounds_toArray, List.set_cons_zero, List.set_cons_succ, List.nil_append, List.cons_append]
                    refine inv_val (i := 9) (by kernel_rfl) rfl rfl (fun w1 hS hd K hK => ?_) ?_
                    · (try dsimp only at hS); go_simp; exact hK.out _ _ (by simp only [Act.put, List.setIfInBounds_toArray, List.set_cons_zero, List.set_cons_succ, List.nil_append, List.cons_append]; rfl) (Below.refl _ _)
                    simp only [Act.put, List.setIfInBounds_toArray, List.set_cons_zero, List.set_cons_succ, List.nil_append, List.cons_append]
                    refine inv_val (i := 10) (by kernel_rfl) rfl rfl (fun w1 hS hd K hK => ?_) ?_
                    · (try dsimp only at hS); go_simp; exact hK.out _ _ (by simp only [Act.put, List.setIfInBounds_toArray, List.set_cons_zero, List.set_cons_succ, List.nil_append, List.cons_append]; rfl) (Below.refl _ _)
                    simp only [Act.put, List.setIfInBounds_toArray, List.set_cons_zero, List.set_cons_succ, List.nil_append, List.cons_append]
                    refine inv_val (i := 11) (by kernel_rfl) rfl rfl (fun w1 hS hd K hK => ?_) ?_
                    · (try dsimp only at hS); go_simp; exact hK.out _ _ (by simp only [Act.put, List.setIfInBounds_toArray, List.set_cons_zero, List.set_cons_succ, List.nil_append, List.cons_append]; rfl) (Below.refl _ _)
                    simp only [Act.put, List.setIfInBounds_toArray, List.set_cons_zero, List.set_cons_succ, List.nil_append, List.cons_append]
                    refine inv_val (i := 12) (by kernel_rfl) rfl rfl (fun w1 hS hd K hK => ?_) ?_
                    · (try dsimp only at hS); go_simp; exact hK.out _ _ (by simp only [Act.put, List.setIfInBounds_toArray, List.set_cons_zero, List.set_cons_succ, List.nil_append, List.cons_append]; rfl) (Below.refl _ _)
                    simp only [Act.put, List.setIfInBounds_toArray, List.set_cons_zero, List.set_cons_succ, List.nil_append, List.cons_append]
                    refine inv_val (i := 13) (by kernel_rfl) rfl rfl (fun w1 hS hd K hK => ?_) ?_
                    · (try dsimp only at hS); go_simp; exact hK.out _ _ (by simp only [Act.put, List.setIfInBounds_toArray, List.set_cons_zero, List.set_cons_succ, List.nil_append, List.cons_append]; rfl) (Below.refl _ _)
                    simp only [Act.put, List.setIfInBounds_toArray, List.set_cons_zero, List.set_cons_succ, List.nil_append, List.cons_append]
                    refine inv_val (i := 14) (by kernel_rfl) rfl rfl (fun w1 hS hd K hK => ?_) ?_
                    · (try dsimp only at hS); go_simp; exact hK.out _ _ (by simp only [Act.put, List.setIfInBounds_toArray, List.set_cons_zero, List.set_cons_succ, List.nil_append, List.cons_append]; rfl) (Below.refl _ _)
                    simp only [Act.put, List.setIfInBounds_toArray, List.set_cons_zero, List.set_cons_succ, List.nil_append, List.cons_append]
                    refine inv_val (i := 15) (by kernel_rfl) rfl rfl (fun w1 hS hd K hK => ?_) ?_
                    · (try dsimp only at hS); go_simp; exact hK.out _ _ (by simp only [Act.put, List.setIfInBounds_toArray, List.set_cons_zero, List.set_cons_succ, List.nil_append, List.cons_append]; rfl) (Below.refl _ _)
                    simp only [Act.put, List.setIfInBounds_toArray, List.set_cons_zero, List.set_cons_succ, List.nil_append, List.cons_append]
                    refine inv_val (i := 16) (by kernel_rfl) rfl rfl (fun w1 hS hd K hK => ?_) ?_
                    · (try dsimp only at hS); go_simp; exact hK.out _ _ (by simp only [Act.put, List.setIfInBounds_toArray, List.set_cons_zero, List.set_cons_succ, List.nil_append, List.cons_append]; rfl) (Below.refl _ _)
                    simp only [Act.put, List.setIfInBounds_toArray, List.set_cons_zero, List.set_cons_succ, List.nil_append, List.cons_append]
                    refine inv_val (i := 17) (by kernel_rfl) rfl rfl (fun w1 hS hd K hK => ?_) ?_
                    · (try dsimp only at hS); go_simp; exact hK.out _ _ (by simp only [Act.put, List.setIfInBounds_toArray, List.set_cons_zero, List.set_cons_succ, List.nil_append, List.cons_append]; rfl) (Below.refl _ _)
                    simp only [Act.put, List.setIfInBounds_toArray, List.set_cons_zero, List.set_cons_succ, List.nil_append, List.cons_append]
                    refine inv_val (i := 18) (by kernel_rfl) rfl rfl (fun w1 hS hd K hK => ?_) ?_
                    · (try dsimp only at hS); go_simp; exact hK.out _ _ (by simp only [Act.put, List.setIfInBounds_toArray, List.set_cons_zero, List.set_cons_succ, List.nil_append, List.cons_append]; rfl) (Below.refl _ _)
                    simp only [Act.put, List.setIfInBounds_toArray, List.set_cons_zero, List.set_cons_succ, List.nil_append, List.cons_append]
                    refine inv_rel (i := 19) (by kernel_rfl) rfl rfl (fun w1 hS hd K hK => ?_) (fun v19 => ?_)
                    · (try dsimp only at hS); go_simp; refine hK.out _ _ _ (by simp only [Act.put, List.setIfInBounds_toArray, List.set_cons_zero, List.set_cons_succ, List.nil_append, List.cons_append]; rfl) ⟨_, rfl, ?_⟩ (bel_new _ _); rw [World.cell?_alloc_at _ _ _ _ rfl]; rfl
                    simp only [Act.put, List.setIfInBounds_toArray, List.set_cons_zero, List.set_cons_succ, List.nil_append, List.cons_append]
                    refine inv_tail2 (by kernel_rfl) rfl rfl (fun w6 hS hd _ => ?_)
                    obtain ⟨g, e9, hg⟩ := hd.out 19
                    subst e9
                    have HS := Lib.hid hS.1
                    have HO6 := Lib.hid (own_step HO.out hS.1)
                    have HG := Lib.hid hg
                    have hsz6 : w.heap.size + 1 ≤ w6.heap.size := Nat.le_trans hsz hS.1.size
                    clear hS hd hg p0 p1 hx x1
                    go_wp2_with (at_builtin; refine wpList_append_own _ rfl _ _ 25 rfl (w.heap.size + 1) 3 i0 (.int .i64 0) 1 8 Try.underlying25 hi hz0 hz1 hz2 rfl (by decide) _ _ _ rfl HO6.out ⟨g, 0, none⟩ 1 1 [.int .i64 Y] rfl rfl ?c1 ?c2 ?c3 ?c4 ?c5 ?_)
                    case c1 =>
                      intro j u hu
                      obtain rfl : j = 0 := by have := (List.getElem?_eq_some_iff.1 hu).1; simpa using this
                      rw [add_at, HG.out]; simpa using hu
                    case c2 => intro u hu; simp at hu; subst hu; rfl
                    case c3 => unfold maxLen; omega
                    case c4 => omega
                    case c5 => omega
                    intro v' w7 hown' hgrow _
                    have hb7 : Below w.heap.size w w7 := (chain HB.out HS.out).grown hgrow (by omega) (fun j hj => by have := (HO6.out.lt j hj).1; omega)
                    have hpb7 : w7.heap[w.heap.size]? = some (.cells #[.string n, .slice (some ⟨b, o, none⟩) l.length pc] 24) := by
                      rw [hgrow.block _ (by omega) (fun h => by have := (HO6.out.lt _ h.symm).1; omega)]; exact heap_step HPB.out HS.out
                    have hsz7 : w.heap.size + 1 ≤ w7.heap.size := by have := hgrow.size; omega
                    have ho7 : w7.ownsRow (w.heap.size + 1) 3 1 v' (k + 1) ((flr l fl (k + 1)).map (Value.int .i64)) := by
                      rw [HFS.out, List.map_append]; exact hown'
                    have HB7 := Lib.hid hb7
                    have HPB7 := Lib.hid hpb7
                    have HO7 := Lib.hid ho7
                    obtain ⟨ao2, ca2, rfl⟩ := own_form ho7
                    clear hb7 hpb7 ho7 hown' hgrow
                    go_wp2
                    go_roundw
                    case rel => exact ⟨k + 1, _, _, by omega, by omega, by go_num, rfl, HO7, HFN, HPB7, HB7, hsz7⟩
                    case measure => simp [intOf]; omega
              · have hflI : ∀ x ∈ flr l fl k, -9223372036854775808 ≤ x ∧ x ≤ 9223372036854775807 := by
                  intro x hx
                  obtain ⟨j, hj, rfl⟩ := List.mem_iff_getElem.1 hx
                  rw [flr_len] at hj
                  have h1 := flr_get l fl k j hj
                  rw [List.getD_eq_getElem?_getD, List.getElem?_eq_getElem (by rw [flr_len]; exact hj)] at h1
                  simp only [Option.getD_some] at h1
                  have h2 := flr_bd (HF.out j hj).1 (tier_every HOK.out j (by omega)).1
                  have h3 := HF.out j hj
                  rw [h1]; omega
                have HI := Lib.hid (ints_of_own (by rw [flr_len]; exact HO.out) hflI)
                have HRS := Lib.hid (rises n l fl now more t k ti HOK.out g1 g3 htl hkl HF.out)
                obtain ⟨ra, hra⟩ : ∃ r : RV, r = ⟨now, n, l, flr l fl k⟩ := ⟨_, rfl⟩
                obtain ⟨rb, hrb⟩ : ∃ r : RV, r = ⟨now + more, n, l, flr l fl k⟩ := ⟨_, rfl⟩
                obtain ⟨nm, hnm⟩ : ∃ x, x = now + more := ⟨_, rfl⟩
                have hw13 : IntKind.i64.wrap (now + more) = nm := by rw [IntKind.wrap_i64]; omega
                have HRA := Lib.hid hra
                have HRB := Lib.hid (show rb = ⟨nm, n, l, flr l fl k⟩ by rw [hnm]; exact hrb)
                have HLN := Lib.hid (show l.length ≤ 1000000 by omega)
                have HFLN := Lib.hid (show (flr l fl k).length ≤ 1000000 by rw [flr_len]; omega)
                have HRS2 := Lib.hid (show ra.from ti ≤ rb.from ti ∧ ra.from ti % (l.getD ti TierV.zero).every = 0 ∧ 0 ≤ ra.from ti ∧ (ra.start ti t).1 = (rb.start ti t).1 ∧ ((rb.start ti t).2 = true → (ra.start ti t).2 = true) ∧ (ti < k → (flr l fl k).getD ti 0 ≤ ra.from ti) by rw [hra, hrb]; exact HRS.out)
                have NA := Lib.hid (show I64 ra.now by rw [hra]; exact hn)
                have NB := Lib.hid (show I64 rb.now by rw [hrb]; unfold I64; dsimp only; omega)
                have hflen := flr_len l fl k
                have HFL := Lib.hid hflen
                clear hflI hra hrb hnm HRS hflen
                by_cases hkf : k < fl.length
                · have hc1 : (k : Int) < fl.length := by omega
                  have hc2 : decide (k < l.length) = false := by simp; omega
                  clear hlt
                  go_wp2_with fail
                  refine wp_region_inv (R := Blw) (S := (fun w' => Below wr.heap.size wr w' ∧ w'.cell? ⟨w.heap.size, 0, none⟩ = some (.string n) ∧ w'.cell? ⟨w.heap.size, 1, none⟩ = some (.slice (some ⟨b, o, none⟩) l.length pc))) 12 (Spec.val ?_ :: Spec.val ?_ :: Spec.val ?_ :: (New.reach ra) :: Spec.val ?_ :: Spec.val ?_ :: Spec.val ?_ :: Spec.val ?_ :: Spec.val ?_ :: (New.reach rb) :: (ptrS wr.heap.size (.cells #[.int .i64 0, .string ByteArray.empty, .slice none 0 0, .slice none 0 0] 34)) :: (ptrS wr.heap.size (.cells #[.int .i64 0, .string ByteArray.empty, .slice none 0 0, .slice none 0 0] 34)) :: []) (by kernel_rfl) (by kernel_rfl) rfl (fun w1 w2 h hb => ⟨chain h.1 hb, cell_step h.2.1 hb, cell_step h.2.2 hb⟩) (⟨(Below.refl _ _).drew, p0, p1⟩) ?hm2
                  case' hm2 => skip
                  refine inv_val (i := 0) (by kernel_rfl) rfl rfl (fun w1 hS hd K hK => ?_) ?_
                  · (try dsimp only at hS); go_simp; exact hK.out _ _ (by simp only [Act.put, List.setIfInBounds_toArray, List.set_cons_zero, List.set_cons_succ, List.nil_append, List.cons_append]; rfl) (Below.refl _ _)
                  simp only [Act.put, List.setIfInBounds_toArray, List.set_cons_zero, List.set_cons_succ, List.nil_append, List.cons_append]
                  refine inv_val (i := 1) (by kernel_rfl) rfl rfl (fun w1 hS hd K hK => ?_) ?_
                  · (try dsimp only at hS); go_simp; exact hK.out _ _ (by simp only [Act.put, List.setIfInBounds_toArray, List.set_cons_zero, List.set_cons_succ, List.nil_append, List.cons_append]; rfl) (Below.refl _ _)
                  simp only [Act.put, List.setIfInBounds_toArray, List.set_cons_zero, List.set_cons_succ, List.nil_append, List.cons_append]
                  refine inv_val (i := 2) (by kernel_rfl) rfl rfl (fun w1 hS hd K hK => ?_) ?_
                  · (try dsimp only at hS); go_simp; exact hK.out _ _ (by simp only [Act.put, List.setIfInBounds_toArray, List.set_cons_zero, List.set_cons_succ, List.nil_append, List.cons_append]; rfl) (Below.refl _ _)
                  simp only [Act.put, List.setIfInBounds_toArray, List.set_cons_zero, List.set_cons_succ, List.nil_append, List.cons_append]
                  refine inv_new (i := 3) (by kernel_rfl) rfl rfl (fun w1 hS hd K hK => ?_) (fun v3 => ?_)
                  · (try dsimp only at hS); go_simp; refine (of_any _ _ now n l (flr l fl k) _ (HP.out.below (chain HB.out hS.1)) (HI.out.below hS.1) HLN.out HFLN.out).mono ?_; rintro e w2 ⟨u, rfl, hu, hb⟩; exact hK.out _ _ _ (by simp only [Act.put, List.setIfInBounds_toArray, List.set_cons_zero, List.set_cons_succ, List.nil_append, List.cons_append] <;> rfl) (show ReachAt w2 u ra by rw [HRA.out]; exact hu.at) (reachOwn_ge hu) hb
                  simp only [Act.put, List.setIfInBounds_toArray, List.set_cons_zero, List.set_cons_succ, List.nil_append, List.cons_append]
                  refine inv_val (i := 4) (by kernel_rfl) rfl rfl (fun w1 hS hd K hK => ?_) ?_
                  · (try dsimp only at hS); go_simp; exact hK.out _ _ (by simp only [Act.put, List.setIfInBounds_toArray, List.set_cons_zero, List.set_cons_succ, List.nil_append, List.cons_append]; rfl) (Below.refl _ _)
                  simp only [Act.put, List.setIfInBounds_toArray, List.set_cons_zero, List.set_cons_succ, List.nil_append, List.cons_append]
                  refine inv_val (i := 5) (by kernel_rfl) rfl rfl (fun w1 hS hd K hK => ?_) ?_
                  · (try dsimp only at hS); go_simp; exact hK.out _ _ (by simp only [Act.put, List.setIfInBounds_toArray, List.set_cons_zero, List.set_cons_succ, List.nil_append, List.cons_append]; rfl) (Below.refl _ _)
                  simp only [Act.put, List.setIfInBounds_toArray, List.set_cons_zero, List.set_cons_succ, List.nil_append, List.cons_append]
                  refine inv_val (i := 6) (by kernel_rfl) rfl rfl (fun w1 hS hd K hK => ?_) ?_
                  · (try dsimp only at hS); go_simp; exact hK.out _ _ (by simp only [Act.put, List.setIfInBounds_toArray, List.set_cons_zero, List.set_cons_succ, List.nil_append, List.cons_append]; rfl) (Below.refl _ _)
                  simp only [Act.put, List.setIfInBounds_toArray, List.set_cons_zero, List.set_cons_succ, List.nil_append, List.cons_append]
                  refine inv_val (i := 7) (by kernel_rfl) rfl rfl (fun w1 hS hd K hK => ?_) ?_
                  · (try dsimp only at hS); go_simp; exact hK.out _ _ (by simp only [Act.put, List.setIfInBounds_toArray, List.set_cons_zero, List.set_cons_succ, List.nil_append, List.cons_append]; rfl) (Below.refl _ _)
                  simp only [Act.put, List.setIfInBounds_toArray, List.set_cons_zero, List.set_cons_succ, List.nil_append, List.cons_append]
                  refine inv_val (i := 8) (by kernel_rfl) rfl rfl (fun w1 hS hd K hK => ?_) ?_
                  · (try dsimp only at hS); go_simp; exact hK.out _ _ (by simp only [Act.put, List.setIfInBounds_toArray, List.set_cons_zero, List.set_cons_succ, List.nil_append, List.cons_append]; rfl) (Below.refl _ _)
                  simp only [Act.put, List.setIfInBounds_toArray, List.set_cons_zero, List.set_cons_succ, List.nil_append, List.cons_append]
                  refine inv_new (i := 9) (by kernel_rfl) rfl rfl (fun w1 hS hd K hK => ?_) (fun v9 => ?_)
                  · (try dsimp only at hS); go_simp; refine (of_any _ _ nm n l (flr l fl k) _ (HP.out.below (chain HB.out hS.1)) (HI.out.below hS.1) HLN.out HFLN.out).mono ?_; rintro e w2 ⟨u, rfl, hu, hb⟩; exact hK.out _ _ _ (by simp only [Act.put, List.setIfInBounds_toArray, List.set_cons_zero, List.set_cons_succ, List.nil_append, List.cons_append] <;> rfl) (show ReachAt w2 u rb by rw [HRB.out]; exact hu.at) (reachOwn_ge hu) hb
                  simp only [Act.put, List.setIfInBounds_toArray, List.set_cons_zero, List.set_cons_succ, List.nil_append, List.cons_append]
                  refine inv_new (i := 10) (by kernel_rfl) rfl rfl (fun w1 hS hd K hK => ?_) (fun v10 => ?_)
                  · (try dsimp only at hS); go_simp; exact hK.out _ _ _ (by simp only [Act.put, List.setIfInBounds_toArray, List.set_cons_zero, List.set_cons_succ, List.nil_append, List.cons_append] <;> rfl) (ptr_new _ _ hS.1.size) (ptr_own _) (bel_new _ _)
                  simp only [Act.put, List.setIfInBounds_toArray, List.set_cons_zero, List.set_cons_succ, List.nil_append, List.cons_append]
                  refine inv_new (i := 11) (by kernel_rfl) rfl rfl (fun w1 hS hd K hK => ?_) (fun v11 => ?_)
                  · (try dsimp only at hS); go_simp; exact hK.out _ _ _ (by simp only [Act.put, List.setIfInBounds_toArray, List.set_cons_zero, List.set_cons_succ, List.nil_append, List.cons_append] <;> rfl) (ptr_new _ _ hS.1.size) (ptr_own _) (bel_new _ _)
                  simp only [Act.put, List.setIfInBounds_toArray, List.set_cons_zero, List.set_cons_succ, List.nil_append, List.cons_append]
                  refine inv_tail2 (by kernel_rfl) rfl rfl (fun w6 hS hd hap => ?_)
                  have hA : ReachAt w6 v3 ra := hd.out 3
                  have hB9 : ReachAt w6 v9 rb := hd.out 9
                  obtain ⟨b1, e1, hge1, hb1⟩ : ∃ b, v10 = .pointer (some ⟨b, 0, none⟩) ∧ wr.heap.size ≤ b ∧ w6.heap[b]? = some (.cells #[.int .i64 0, .string ByteArray.empty, .slice none 0 0, .slice none 0 0] 34) := hd.out 10
                  obtain ⟨b2, e2, hge2, hb2⟩ : ∃ b, v11 = .pointer (some ⟨b, 0, none⟩) ∧ wr.heap.size ≤ b ∧ w6.heap[b]? = some (.cells #[.int .i64 0, .string ByteArray.empty, .slice none 0 0, .slice none 0 0] 34) := hd.out 11
                  have hne : b1 ≠ b2 := fun h => (show ∀ b, ptrOwn v10 b → ptrOwn v11 b → False from hap.out 10 11 (by decide)) b1 e1 (h ▸ e2)
                  have a1 : ∀ b, reachOwn v3 b → b ≠ b1 := fun b h h' => (show ∀ b, reachOwn v3 b → ptrOwn v10 b → False from hap.out 3 10 (by decide)) b h (h' ▸ e1)
                  have a2 : ∀ b, reachOwn v3 b → b ≠ b2 := fun b h h' => (show ∀ b, reachOwn v3 b → ptrOwn v11 b → False from hap.out 3 11 (by decide)) b h (h' ▸ e2)
                  have a3 : ∀ b, reachOwn v9 b → b ≠ b1 := fun b h h' => (show ∀ b, reachOwn v9 b → ptrOwn v10 b → False from hap.out 9 10 (by decide)) b h (h' ▸ e1)
                  have a4 : ∀ b, reachOwn v9 b → b ≠ b2 := fun b h h' => (show ∀ b, reachOwn v9 b → ptrOwn v11 b → False from hap.out 9 11 (by decide)) b h (h' ▸ e2)
                  obtain ⟨xa, xc, xfa, xfc, hz⟩ := hA.form
                  subst hz
                  obtain ⟨ya, yc, yfa, yfc, hz⟩ := hB9.form
                  subst hz
                  subst e1 e2
                  have HN := Lib.hid (two_set hb1 hb2 hne hA hB9 a1 a2 a3 a4)
                  have HB7 := Lib.hid (set4_below (x0 := .int .i64 rb.now) (x1 := .string rb.name) (x2 := .slice ya rb.l.length yc) (x3 := .slice yfa rb.fl.length yfc) (set4_below (x0 := .int .i64 ra.now) (x1 := .string ra.name) (x2 := .slice xa ra.l.length xc) (x3 := .slice xfa ra.fl.length xfc) hS.1 hge1) hge2)
                  obtain ⟨c0, c1, c2, c3⟩ := row4 hb1
                  obtain ⟨d0, d1, d2, d3⟩ := row4 hb2
                  have f0 := frozen_row (o := 0) hb1
                  have f1 := frozen_row (o := 1) hb1
                  have f2 := frozen_row (o := 2) hb1
                  have f3 := frozen_row (o := 3) hb1
                  have f4 := frozen_row (o := 0) hb2
                  have f5 := frozen_row (o := 1) hb2
                  have f6 := frozen_row (o := 2) hb2
                  have f7 := frozen_row (o := 3) hb2
                  have HS := Lib.hid hS.1
                  clear hS hd hap hA hB9 a1 a2 a3 a4 hb1 hb2 p0 p1
                  go_wp2_with fail
                  obtain ⟨PA, hPA⟩ : ∃ p, p = ra.start ti t := ⟨_, rfl⟩
                  obtain ⟨PB, hPB⟩ : ∃ p, p = rb.start ti t := ⟨_, rfl⟩
                  obtain ⟨X, was⟩ := PA
                  obtain ⟨Y, is⟩ := PB
                  obtain ⟨r1, r2, r3, r4, r5, r6⟩ := HRS2.out
                  rw [← hPA, ← hPB] at r4 r5
                  dsimp only at r4 r5
                  subst r4
                  have HPA := Lib.hid hPA
                  have HPBS := Lib.hid hPB
                  obtain ⟨FA, hFA⟩ : ∃ x, x = ra.from ti := ⟨_, rfl⟩
                  obtain ⟨FB, hFB⟩ : ∃ x, x = rb.from ti := ⟨_, rfl⟩
                  obtain ⟨_, y1, _, _⟩ := HCL.out ti htl
                  replace y1 := ((HB.out.trans (HB7.out.mono HB.out.size)).cell (p := ⟨b, _, none⟩) hbw).trans y1
                  have hev := tier_every HOK.out ti htl
                  obtain ⟨ev, hee⟩ : ∃ x, x = (l.getD ti TierV.zero).every := ⟨_, rfl⟩
                  rw [← hee] at y1 hev r2
                  rw [← hFA] at r1 r2 r3 r6
                  rw [← hFB] at r1
                  have HFA := Lib.hid hFA
                  have HFB := Lib.hid hFB
                  have HR6 := Lib.hid r6
                  have HR5 := Lib.hid r5
                  have hrem : FA.tmod ev = 0 := by rw [Int.tmod_eq_emod_of_nonneg r3]; exact r2
                  have hev0 : ¬ ev = 0 := by omega
                  have hIA : I64 FA := by rw [hFA]; exact RV.from_I64 HN.out.1.lies NA.out ti
                  unfold I64 at hIA
                  have HY1 := Lib.hid y1
                  clear hPA hPB hFA hFB hee r2 r5 r6 c0 c1 c2 c3 d0 d1 d2 d3 f0 f1 f2 f3 f4 f5 f6 f7 y1 HRS2
                  refine (start_any _ ra ti t _ HN.out.1.lies NA.out KT.out KTT.out).mono ?_
                  rintro e w8 ⟨rfl, hb⟩
                  rw [← HPA.out]
                  have HX8 := Lib.hid (HN.out.1.step hb)
                  have HY8 := Lib.hid (HN.out.2.step hb)
                  have HB8 := Lib.hid (chain HB7.out hb)
                  have HZ8 := Lib.hid (cell_step HY1.out hb)
                  clear hb HN HB7 HY1
                  obtain ⟨d0, d1, d2, d3⟩ := HY8.out.cells
                  go_wp2_with fail
                  refine (start_any _ rb ti t _ HY8.out.lies NB.out KT.out KTT.out).mono ?_
                  rintro e w9 ⟨rfl, hb⟩
                  rw [← HPBS.out]
                  have HX9 := Lib.hid (HX8.out.step hb)
                  have HY9 := Lib.hid (HY8.out.step hb)
                  have HB9 := Lib.hid (chain HB8.out hb)
                  have hz9 := cell_step HZ8.out hb
                  clear hb d0 d1 d2 d3 HX8 HY8 HB8 HZ8
                  obtain ⟨c0, c1, c2, c3⟩ := HX9.out.cells
                  obtain ⟨d0, d1, d2, d3⟩ := HY9.out.cells
                  have hpb9 := heap_step HPB.out HB9.out
                  obtain ⟨p0, p1⟩ := row2 hpb9
                  clear hpb9
                  by_cases hik : ti < k
                  · have hIT := HI.out.below HB9.out
                    have hgI := int_ok hIT ti (by rw [HFL.out]; exact hik)
                    obtain ⟨a5, c5, e5, _, _, h5⟩ := hIT
                    injection e5 with e5 e6 e7
                    obtain ⟨fb, fo, e8, _, hcell5⟩ := h5 (by intro h; have := HFL.out; rw [h] at this; simp at this; omega)
                    rw [← e5] at e8
                    subst e8
                    have z5 := hcell5 ti (by rw [HFL.out]; exact hik)
                    have r6 := HR6.out hik
                    obtain ⟨G, hG⟩ : ∃ G, G = (flr l fl k).getD ti 0 := ⟨_, rfl⟩
                    rw [← hG] at z5 r6 hgI
                    unfold I64 at hgI
                    clear e5 e6 e7 h5 hcell5 hG
                    cases is
                    · go_wp2_with fail
                      refine wp_region_inv (R := Blw) (S := (fun w' => (Below wr.heap.size wr w' ∧ RBox w' b1 xa xc xfa xfc ra ∧ RBox w' b2 ya yc yfa yfc rb) ∧ w'.cell? ⟨b1, 0, none⟩ = some (.int .i64 ra.now) ∧ w'.cell? ⟨b1, 1, none⟩ = some (.string ra.name) ∧ w'.cell? ⟨b1, 2, none⟩ = some (.slice xa ra.l.length xc) ∧ w'.cell? ⟨b1, 3, none⟩ = some (.slice xfa ra.fl.length xfc) ∧ w'.cell? ⟨b2, 0, none⟩ = some (.int .i64 rb.now) ∧ w'.cell? ⟨b2, 1, none⟩ = some (.string rb.name) ∧ w'.cell? ⟨b2, 2, none⟩ = some (.slice ya rb.l.length yc) ∧ w'.cell? ⟨b2, 3, none⟩ = some (.slice yfa rb.fl.length yfc) ∧ w'.cell? ⟨w.heap.size, 1, none⟩ = some (.slice (some ⟨b, o, none⟩) l.length pc) ∧ w'.cell? ⟨b, o + ti * 4 + 1, none⟩ = some (.int .i64 ev) ∧ w'.cell? ⟨fb, fo + ti, none⟩ = some (.int .i64 G))) 52 (Spec.val ?_ :: Spec.val ?_ :: Spec.val ?_ :: Spec.val ?_ :: Spec.val ?_ :: Spec.val ?_ :: Spec.val ?_ :: Spec.val ?_ :: Spec.val ?_ :: Spec.val ?_ :: Spec.val ?_ :: Spec.val ?_ :: Spec.val ?_ :: Spec.val ?_ :: Spec.val ?_ :: Spec.val ?_ :: Spec.val ?_ :: Spec.val ?_ :: Spec.val ?_ :: Spec.val ?_ :: Spec.val ?_ :: Spec.val ?_ :: Spec.val ?_ :: Spec.val ?_ :: Spec.val ?_ :: Spec.val ?_ :: Spec.val ?_ :: Spec.val ?_ :: Spec.val ?_ :: Spec.val ?_ :: Spec.val ?_ :: Spec.val ?_ :: Spec.val ?_ :: Spec.val ?_ :: Spec.val ?_ :: Spec.val ?_ :: Spec.val ?_ :: Spec.val ?_ :: Spec.val ?_ :: Spec.val ?_ :: Spec.val ?_ :: Spec.val ?_ :: Spec.val ?_ :: Spec.val ?_ :: Spec.val ?_ :: Spec.val ?_ :: Spec.val ?_ :: Spec.val ?_ :: Spec.val ?_ :: Spec.val ?_ :: Spec.val ?_ :: Spec.val ?_ :: []) (by kernel_rfl) (by kernel_rfl) rfl (fun w1 w2 h hb => ⟨⟨chain h.1.1 hb, h.1.2.1.step hb, h.1.2.2.step hb⟩, cell_step h.2.1 hb, cell_step h.2.2.1 hb, cell_step h.2.2.2.1 hb, cell_step h.2.2.2.2.1 hb, cell_step h.2.2.2.2.2.1 hb, cell_step h.2.2.2.2.2.2.1 hb, cell_step h.2.2.2.2.2.2.2.1 hb, cell_step h.2.2.2.2.2.2.2.2.1 hb, cell_step h.2.2.2.2.2.2.2.2.2.1 hb, cell_step h.2.2.2.2.2.2.2.2.2.2.1 hb, cell_step h.2.2.2.2.2.2.2.2.2.2.2 hb⟩) (⟨⟨HB9.out.drew, HX9.out.step (Below.refl _ _).drew, HY9.out.step (Below.refl _ _).drew⟩, c0, c1, c2, c3, d0, d1, d2, d3, p1, hz9, z5⟩) ?hm4
                      case' hm4 => skip
                      refine inv_val (i := 0) (by kernel_rfl) rfl rfl (fun w1 hS hd K hK => ?_) ?_
                      · (try dsimp only at hS); go_simp; refine (alive_any _).mono ?_; rintro e w2 ⟨rfl, hb⟩; exact hK.out _ _ (by simp only [Act.put, List.setIfInBounds_toArray, List.set_cons_zero, List.set_cons_succ, List.nil_append, List.cons_append]; rfl) hb
                      simp only [Act.put, List.setIfInBounds_toArray, List.set_cons_zero, List.set_cons_succ, List.nil_append, List.cons_append]
                      refine inv_val (i := 1) (by kernel_rfl) rfl rfl (fun w1 hS hd K hK => ?_) ?_
                      · (try dsimp only at hS); go_simp; exact hK.out _ _ (by simp only [Act.put, List.setIfInBounds_toArray, List.set_cons_zero, List.set_cons_succ, List.nil_append, List.cons_append]; rfl) (Below.refl _ _)
                      simp only [Act.put, List.setIfInBounds_toArray, List.set_cons_zero, List.set_cons_succ, List.nil_append, List.cons_append]
                      refine inv_val (i := 2) (by kernel_rfl) rfl rfl (fun w1 hS hd K hK => ?_) ?_
                      · (try dsimp only at hS); go_simp; exact hK.out _ _ (by simp only [Act.put, List.setIfInBounds_toArray, List.set_cons_zero, List.set_cons_succ, List.nil_append, List.cons_append]; rfl) (Below.refl _ _)
                      simp only [Act.put, List.setIfInBounds_toArray, List.set_cons_zero, List.set_cons_succ, List.nil_append, List.cons_append]
                      refine inv_val (i := 3) (by kernel_rfl) rfl rfl (fun w1 hS hd K hK => ?_) ?_
                      · (try dsimp only at hS); go_simp; exact hK.out _ _ (by simp only [Act.put, List.setIfInBounds_toArray, List.set_cons_zero, List.set_cons_succ, List.nil_append, List.cons_append]; rfl) (Below.refl _ _)
                      simp only [Act.put, List.setIfInBounds_toArray, List.set_cons_zero, List.set_cons_succ, List.nil_append, List.cons_append]
                      refine inv_val (i := 4) (by kernel_rfl) rfl rfl (fun w1 hS hd K hK => ?_) ?_
                      · (try dsimp only at hS); go_simp; refine (from_any _ ra ti _ hS.1.2.1.lies NA.out KT.out).mono ?_; rintro e w2 ⟨rfl, hb⟩; rw [← HFA.out]; exact hK.out _ _ (by simp only [Act.put, List.setIfInBounds_toArray, List.set_cons_zero, List.set_cons_succ, List.nil_append, List.cons_append]; rfl) hb
                      simp only [Act.put, List.setIfInBounds_toArray, List.set_cons_zero, List.set_cons_succ, List.nil_append, List.cons_append]
                      refine inv_val (i := 5) (by kernel_rfl) rfl rfl (fun w1 hS hd K hK => ?_) ?_
                      · (try dsimp only at hS); go_simp; exact hK.out _ _ (by simp only [Act.put, List.setIfInBounds_toArray, List.set_cons_zero, List.set_cons_succ, List.nil_append, List.cons_append]; rfl) (Below.refl _ _)
                      simp only [Act.put, List.setIfInBounds_toArray, List.set_cons_zero, List.set_cons_succ, List.nil_append, List.cons_append]
                      refine inv_val (i := 6) (by kernel_rfl) rfl rfl (fun w1 hS hd K hK => ?_) ?_
                      · (try dsimp only at hS); go_simp; exact hK.out _ _ (by simp only [Act.put, List.setIfInBounds_toArray, List.set_cons_zero, List.set_cons_succ, List.nil_append, List.cons_append]; rfl) (Below.refl _ _)
                      simp only [Act.put, List.setIfInBounds_toArray, List.set_cons_zero, List.set_cons_succ, List.nil_append, List.cons_append]
                      refine inv_val (i := 7) (by kernel_rfl) rfl rfl (fun w1 hS hd K hK => ?_) ?_
                      · (try dsimp only at hS); go_simp; refine (from_any _ rb ti _ hS.1.2.2.lies NB.out KT.out).mono ?_; rintro e w2 ⟨rfl, hb⟩; rw [← HFB.out]; exact hK.out _ _ (by simp only [Act.put, List.setIfInBounds_toArray, List.set_cons_zero, List.set_cons_succ, List.nil_append, List.cons_append]; rfl) hb
                      simp only [Act.put, List.setIfInBounds_toArray, List.set_cons_zero, List.set_cons_succ, List.nil_append, List.cons_append]
                      refine inv_val (i := 8) (by kernel_rfl) rfl rfl (fun w1 hS hd K hK => ?_) ?_
                      · (try dsimp only at hS); go_simp; exact hK.out _ _ (by simp only [Act.put, List.setIfInBounds_toArray, List.set_cons_zero, List.set_cons_succ, List.nil_append, List.cons_append]; rfl) (Below.refl _ _)
                      simp only [Act.put, List.setIfInBounds_toArray, List.set_cons_zero, List.set_cons_succ, List.nil_append, List.cons_append]
                      refine inv_val (i := 9) (by kernel_rfl) rfl rfl (fun w1 hS hd K hK => ?_) ?_
                      · (try dsimp only at hS); go_simp; exact hK.out _ _ (by simp only [Act.put, List.setIfInBounds_toArray, List.set_cons_zero, List.set_cons_succ, List.nil_append, List.cons_append]; rfl) (Below.refl _ _)
                      simp only [Act.put, List.setIfInBounds_toArray, List.set_cons_zero, List.set_cons_succ, List.nil_append, List.cons_append]
                      refine inv_val (i := 10) (by kernel_rfl) rfl rfl (fun w1 hS hd K hK => ?_) ?_
                      · (try dsimp only at hS); go_simp; exact hK.out _ _ (by simp only [Act.put, List.setIfInBounds_toArray, List.set_cons_zero, List.set_cons_succ, List.nil_append, List.cons_append]; rfl) (Below.refl _ _)
                      simp only [Act.put, List.setIfInBounds_toArray, List.set_cons_zero, List.set_cons_succ, List.nil_append, List.cons_append]
                      refine inv_val (i := 11) (by kernel_rfl) rfl rfl (fun w1 hS hd K hK => ?_) ?_
                      · (try dsimp only at hS); go_simp; exact hK.out _ _ (by simp only [Act.put, List.setIfInBounds_toArray, List.set_cons_zero, List.set_cons_succ, List.nil_append, List.cons_append]; rfl) (Below.refl _ _)
                      simp only [Act.put, List.setIfInBounds_toArray, List.set_cons_zero, List.set_cons_succ, List.nil_append, List.cons_append]
                      refine inv_val (i := 12) (by kernel_rfl) rfl rfl (fun w1 hS hd K hK => ?_) ?_
                      · (try dsimp only at hS); go_simp; exact hK.out _ _ (by simp only [Act.put, List.setIfInBounds_toArray, List.set_cons_zero, List.set_cons_succ, List.nil_append, List.cons_append]; rfl) (Below.refl _ _)
                      simp only [Act.put, List.setIfInBounds_toArray, List.set_cons_zero, List.set_cons_succ, List.nil_append, List.cons_append]
                      refine inv_val (i := 13) (by kernel_rfl) rfl rfl (fun w1 hS hd K hK => ?_) ?_
                      · (try dsimp only at hS); go_simp; refine (from_any _ ra ti _ hS.1.2.1.lies NA.out KT.out).mono ?_; rintro e w2 ⟨rfl, hb⟩; rw [← HFA.out]; exact hK.out _ _ (by simp only [Act.put, List.setIfInBounds_toArray, List.set_cons_zero, List.set_cons_succ, List.nil_append, List.cons_append]; rfl) hb
                      simp only [Act.put, List.setIfInBounds_toArray, List.set_cons_zero, List.set_cons_succ, List.nil_append, List.cons_append]
                      refine inv_val (i := 14) (by kernel_rfl) rfl rfl (fun w1 hS hd K hK => ?_) ?_
                      · (try dsimp only at hS); go_simp; exact hK.out _ _ (by simp only [Act.put, List.setIfInBounds_toArray, List.set_cons_zero, List.set_cons_succ, List.nil_append, List.cons_append]; rfl) (Below.refl _ _)
                      simp only [Act.put, List.setIfInBounds_toArray, List.set_cons_zero, List.set_cons_succ, List.nil_append, List.cons_append]
                      refine inv_val (i := 15) (by kernel_rfl) rfl rfl (fun w1 hS hd K hK => ?_) ?_
                      · (try dsimp only at hS); go_simp; exact hK.out _ _ (by simp only [Act.put, List.setIfInBounds_toArray, List.set_cons_zero, List.set_cons_succ, List.nil_append, List.cons_append]; rfl) (Below.refl _ _)
                      simp only [Act.put, List.setIfInBounds_toArray, List.set_cons_zero, List.set_cons_succ, List.nil_append, List.cons_append]
                      refine inv_val (i := 16) (by kernel_rfl) rfl rfl (fun w1 hS hd K hK => ?_) ?_
                      · (try dsimp only at hS); go_simp; exact hK.out _ _ (by simp only [Act.put, List.setIfInBounds_toArray, List.set_cons_zero, List.set_cons_succ, List.nil_append, List.cons_append]; rfl) (Below.refl _ _)
                      simp only [Act.put, List.setIfInBounds_toArray, List.set_cons_zero, List.set_cons_succ, List.nil_append, List.cons_append]
                      refine inv_val (i := 17) (by kernel_rfl) rfl rfl (fun w1 hS hd K hK => ?_) ?_
                      · (try dsimp only at hS); go_simp; exact hK.out _ _ (by simp only [Act.put, List.setIfInBounds_toArray, List.set_cons_zero, List.set_cons_succ, List.nil_append, List.cons_append]; rfl) (Below.refl _ _)
                      simp only [Act.put, List.setIfInBounds_toArray, List.set_cons_zero, List.set_cons_succ, List.nil_append, List.cons_append]
                      refine inv_val (i := 18) (by kernel_rfl) rfl rfl (fun w1 hS hd K hK => ?_) ?_
                      · (try dsimp only at hS); go_simp; exact hK.out _ _ (by simp only [Act.put, List.setIfInBounds_toArray, List.set_cons_zero, List.set_cons_succ, List.nil_append, List.cons_append]; rfl) (Below.refl _ _)
                      simp only [Act.put, List.setIfInBounds_toArray, List.set_cons_zero, List.set_cons_succ, List.nil_append, List.cons_append]
                      refine inv_val (i := 19) (by kernel_rfl) rfl rfl (fun w1 hS hd K hK => ?_) ?_
                      · (try dsimp only at hS); go_simp; exact hK.out _ _ (by simp only [Act.put, List.setIfInBounds_toArray, List.set_cons_zero, List.set_cons_succ, List.nil_append, List.cons_append]; rfl) (Below.refl _ _)
                      simp only [Act.put, List.setIfInBounds_toArray, List.set_cons_zero, List.set_cons_succ, List.nil_append, List.cons_append]
                      refine inv_val (i := 20) (by kernel_rfl) rfl rfl (fun w1 hS hd K hK => ?_) ?_
                      · (try dsimp only at hS); go_simp; exact hK.out _ _ (by simp only [Act.put, List.setIfInBounds_toArray, List.set_cons_zero, List.set_cons_succ, List.nil_append, List.cons_append]; rfl) (Below.refl _ _)
                      simp only [Act.put, List.setIfInBounds_toArray, List.set_cons_zero, List.set_cons_succ, List.nil_append, List.cons_append]
                      refine inv_val (i := 21) (by kernel_rfl) rfl rfl (fun w1 hS hd K hK => ?_) ?_
                      · (try dsimp only at hS); go_simp; exact hK.out _ _ (by simp only [Act.put, List.setIfInBounds_toArray, List.set_cons_zero, List.set_cons_succ, List.nil_append, List.cons_append]; rfl) (Below.refl _ _)
                      simp only [Act.put, List.setIfInBounds_toArray, List.set_cons_zero, List.set_cons_succ, List.nil_append, List.cons_append]
                      refine inv_val (i := 22) (by kernel_rfl) rfl rfl (fun w1 hS hd K hK => ?_) ?_
                      · (try dsimp only at hS); go_simp; exact hK.out _ _ (by simp only [Act.put, List.setIfInBounds_toArray, List.set_cons_zero, List.set_cons_succ, List.nil_append, List.cons_append]; rfl) (Below.refl _ _)
                      simp only [Act.put, List.setIfInBounds_toArray, List.set_cons_zero, List.set_cons_succ, List.nil_append, List.cons_append]
                      refine inv_val (i := 23) (by kernel_rfl) rfl rfl (fun w1 hS hd K hK => ?_) ?_
                      · (try dsimp only at hS); go_simp; exact hK.out _ _ (by simp only [Act.put, List.setIfInBounds_toArray, List.set_cons_zero, List.set_cons_succ, List.nil_append, List.cons_append]; rfl) (Below.refl _ _)
                      simp only [Act.put, List.setIfInBounds_toArray, List.set_cons_zero, List.set_cons_succ, List.nil_append, List.cons_append]
                      refine inv_val (i := 24) (by kernel_rfl) rfl rfl (fun w1 hS hd K hK => ?_) ?_
                      · (try dsimp only at hS); go_simp; exact hK.out _ _ (by simp only [Act.put, List.setIfInBounds_toArray, List.set_cons_zero, List.set_cons_succ, List.nil_append, List.cons_append]; rfl) (Below.refl _ _)
                      simp only [Act.put, List.setIfInBounds_toArray, List.set_cons_zero, List.set_cons_succ, List.nil_append, List.cons_append]
                      refine inv_val (i := 25) (by kernel_rfl) rfl rfl (fun w1 hS hd K hK => ?_) ?_
                      · (try dsimp only at hS); go_simp; exact hK.out _ _ (by simp only [Act.put, List.setIfInBounds_toArray, List.set_cons_zero, List.set_cons_succ, List.nil_append, List.cons_append]; rfl) (Below.refl _ _)
                      simp only [Act.put, List.setIfInBounds_toArray, List.set_cons_zero, List.set_cons_succ, List.nil_append, List.cons_append]
                      refine inv_val (i := 26) (by kernel_rfl) rfl rfl (fun w1 hS hd K hK => ?_) ?_
                      · (try dsimp only at hS); go_simp; exact hK.out _ _ (by simp only [Act.put, List.setIfInBounds_toArray, List.set_cons_zero, List.set_cons_succ, List.nil_append, List.cons_append]; rfl) (Below.refl _ _)
                      simp only [Act.put, List.setIfInBounds_toArray, List.set_cons_zero, List.set_cons_succ, List.nil_append, List.cons_append]
                      refine inv_val (i := 27) (by kernel_rfl) rfl rfl (fun w1 hS hd K hK => ?_) ?_
                      · (try dsimp only at hS); go_simp; exact hK.out _ _ (by simp only [Act.put, List.setIfInBounds_toArray, List.set_cons_zero, List.set_cons_succ, List.nil_append, List.cons_append]; rfl) (Below.refl _ _)
                      simp only [Act.put, List.setIfInBounds_toArray, List.set_cons_zero, List.set_cons_succ, List.nil_append, List.cons_append]
                      refine inv_val (i := 28) (by kernel_rfl) rfl rfl (fun w1 hS hd K hK => ?_) ?_
                      · (try dsimp only at hS); go_simp; exact hK.out _ _ (by simp only [Act.put, List.setIfInBounds_toArray, List.set_cons_zero, List.set_cons_succ, List.nil_append, List.cons_append]; rfl) (Below.refl _ _)
                      simp only [Act.put, List.setIfInBounds_toArray, List.set_cons_zero, List.set_cons_succ, List.nil_append, List.cons_append]
                      refine inv_val (i := 29) (by kernel_rfl) rfl rfl (fun w1 hS hd K hK => ?_) ?_
                      · (try dsimp only at hS); go_simp; exact hK.out _ _ (by simp only [Act.put, List.setIfInBounds_toArray, List.set_cons_zero, List.set_cons_succ, List.nil_append, List.cons_append]; rfl) (Below.refl _ _)
                      simp only [Act.put, List.setIfInBounds_toArray, List.set_cons_zero, List.set_cons_succ, List.nil_append, List.cons_append]
                      refine inv_val (i := 30) (by kernel_rfl) rfl rfl (fun w1 hS hd K hK => ?_) ?_
                      · (try dsimp only at hS); go_simp; exact hK.out _ _ (by simp only [Act.put, List.setIfInBounds_toArray, List.set_cons_zero, List.set_cons_succ, List.nil_append, List.cons_append]; rfl) (Below.refl _ _)
                      simp only [Act.put, List.setIfInBounds_toArray, List.set_cons_zero, List.set_cons_succ, List.nil_append, List.cons_append]
                      refine inv_val (i := 31) (by kernel_rfl) rfl rfl (fun w1 hS hd K hK => ?_) ?_
                      · (try dsimp only at hS); go_simp; exact hK.out _ _ (by simp only [Act.put, List.setIfInBounds_toArray, List.set_cons_zero, List.set_cons_succ, List.nil_append, List.cons_append]; rfl) (Below.refl _ _)
                      simp only [Act.put, List.setIfInBounds_toArray, List.set_cons_zero, List.set_cons_succ, List.nil_append, List.cons_append]
                      refine inv_val (i := 32) (by kernel_rfl) rfl rfl (fun w1 hS hd K hK => ?_) ?_
                      · rw [if_neg (by simp [Region.wanted, yielded])]; exact hK.out _ _ (by rfl) (Below.refl _ _)
                      simp only [Act.put, List.setIfInBounds_toArray, List.set_cons_zero, List.set_cons_succ, List.nil_append, List.cons_append]
                      refine inv_val (i := 33) (by kernel_rfl) rfl rfl (fun w1 hS hd K hK => ?_) ?_
                      · (try dsimp only at hS); go_simp; exact hK.out _ _ (by simp only [Act.put, List.setIfInBounds_toArray, List.set_cons_zero, List.set_cons_succ, List.nil_append, List.cons_append]; rfl) (Below.refl _ _)
                      simp only [Act.put, List.setIfInBounds_toArray, List.set_cons_zero, List.set_cons_succ, List.nil_append, List.cons_append]
                      refine inv_val (i := 34) (by kernel_rfl) rfl rfl (fun w1 hS hd K hK => ?_) ?_
                      · (try dsimp only at hS); go_simp; exact hK.out _ _ (by simp only [Act.put, List.setIfInBounds_toArray, List.set_cons_zero, List.set_cons_succ, List.nil_append, List.cons_append]; rfl) (Below.refl _ _)
                      simp only [Act.put, List.setIfInBounds_toArray, List.set_cons_zero, List.set_cons_succ, List.nil_append, List.cons_append]
                      refine inv_val (i := 35) (by kernel_rfl) rfl rfl (fun w1 hS hd K hK => ?_) ?_
                      · (try dsimp only at hS); go_simp; exact hK.out _ _ (by simp only [Act.put, List.setIfInBounds_toArray, List.set_cons_zero, List.set_cons_succ, List.nil_append, List.cons_append]; rfl) (Below.refl _ _)
                      simp only [Act.put, List.setIfInBounds_toArray, List.set_cons_zero, List.set_cons_succ, List.nil_append, List.cons_append]
                      refine inv_val (i := 36) (by kernel_rfl) rfl rfl (fun w1 hS hd K hK => ?_) ?_
                      · (try dsimp only at hS); go_simp; exact hK.out _ _ (by simp only [Act.put, List.setIfInBounds_toArray, List.set_cons_zero, List.set_cons_succ, List.nil_append, List.cons_append]; rfl) (Below.refl _ _)
                      simp only [Act.put, List.setIfInBounds_toArray, List.set_cons_zero, List.set_cons_succ, List.nil_append, List.cons_append]
                      refine inv_val (i := 37) (by kernel_rfl) rfl rfl (fun w1 hS hd K hK => ?_) ?_
                      · (try dsimp only at hS); go_simp; exact hK.out _ _ (by simp only [Act.put, List.setIfInBounds_toArray, List.set_cons_zero, List.set_cons_succ, List.nil_append, List.cons_append]; rfl) (Below.refl _ _)
                      simp only [Act.put, List.setIfInBounds_toArray, List.set_cons_zero, List.set_cons_succ, List.nil_append, List.cons_append]
                      refine inv_val (i := 38) (by kernel_rfl) rfl rfl (fun w1 hS hd K hK => ?_) ?_
                      · (try dsimp only at hS); go_simp; exact hK.out _ _ (by simp only [Act.put, List.setIfInBounds_toArray, List.set_cons_zero, List.set_cons_succ, List.nil_append, List.cons_append]; rfl) (Below.refl _ _)
                      simp only [Act.put, List.setIfInBounds_toArray, List.set_cons_zero, List.set_cons_succ, List.nil_append, List.cons_append]
                      refine inv_val (i := 39) (by kernel_rfl) rfl rfl (fun w1 hS hd K hK => ?_) ?_
                      · (try dsimp only at hS); go_simp; exact hK.out _ _ (by simp only [Act.put, List.setIfInBounds_toArray, List.set_cons_zero, List.set_cons_succ, List.nil_append, List.cons_append]; rfl) (Below.refl _ _)
                      simp only [Act.put, List.setIfInBounds_toArray, List.set_cons_zero, List.set_cons_succ, List.nil_append, List.cons_append]
                      refine inv_val (i := 40) (by kernel_rfl) rfl rfl (fun w1 hS hd K hK => ?_) ?_
                      · (try dsimp only at hS); go_simp; exact hK.out _ _ (by simp only [Act.put, List.setIfInBounds_toArray, List.set_cons_zero, List.set_cons_succ, List.nil_append, List.cons_append]; rfl) (Below.refl _ _)
                      simp only [Act.put, List.setIfInBounds_toArray, List.set_cons_zero, List.set_cons_succ, List.nil_append, List.cons_append]
                      refine inv_val (i := 41) (by kernel_rfl) rfl rfl (fun w1 hS hd K hK => ?_) ?_
                      · (try dsimp only at hS); go_simp; exact hK.out _ _ (by simp only [Act.put, List.setIfInBounds_toArray, List.set_cons_zero, List.set_cons_succ, List.nil_append, List.cons_append]; rfl) (Below.refl _ _)
                      simp only [Act.put, List.setIfInBounds_toArray, List.set_cons_zero, List.set_cons_succ, List.nil_append, List.cons_append]
                      refine inv_val (i := 42) (by kernel_rfl) rfl rfl (fun w1 hS hd K hK => ?_) ?_
                      · (try dsimp only at hS); go_simp; exact hK.out _ _ (by simp only [Act.put, List.setIfInBounds_toArray, List.set_cons_zero, List.set_cons_succ, List.nil_append, List.cons_append]; rfl) (Below.refl _ _)
                      simp only [Act.put, List.setIfInBounds_toArray, List.set_cons_zero, List.set_cons_succ, List.nil_append, List.cons_append]
                      refine inv_val (i := 43) (by kernel_rfl) rfl rfl (fun w1 hS hd K hK => ?_) ?_
                      · (try dsimp only at hS); go_simp; refine (from_any _ ra ti _ hS.1.2.1.lies NA.out KT.out).mono ?_; rintro e w2 ⟨rfl, hb⟩; rw [← HFA.out]; exact hK.out _ _ (by simp only [Act.put, List.setIfInBounds_toArray, List.set_cons_zero, List.set_cons_succ, List.nil_append, List.cons_append]; rfl) hb
                      simp only [Act.put, List.setIfInBounds_toArray, List.set_cons_zero, List.set_cons_succ, List.nil_append, List.cons_append]
                      refine inv_val (i := 44) (by kernel_rfl) rfl rfl (fun w1 hS hd K hK => ?_) ?_
                      · (try dsimp only at hS); go_simp; exact hK.out _ _ (by simp only [Act.put, List.setIfInBounds_toArray, List.set_cons_zero, List.set_cons_succ, List.nil_append, List.cons_append]; rfl) (Below.refl _ _)
                      simp only [Act.put, List.setIfInBounds_toArray, List.set_cons_zero, List.set_cons_succ, List.nil_append, List.cons_append]
                      refine inv_val (i := 45) (by kernel_rfl) rfl rfl (fun w1 hS hd K hK => ?_) ?_
                      · (try dsimp only at hS); go_simp; exact hK.out _ _ (by simp only [Act.put, List.setIfInBounds_toArray, List.set_cons_zero, List.set_cons_succ, List.nil_append, List.cons_append]; rfl) (Below.refl _ _)
                      simp only [Act.put, List.setIfInBounds_toArray, List.set_cons_zero, List.set_cons_succ, List.nil_append, List.cons_append]
                      refine inv_val (i := 46) (by kernel_rfl) rfl rfl (fun w1 hS hd K hK => ?_) ?_
                      · (try dsimp only at hS); go_simp; exact hK.out _ _ (by simp only [Act.put, List.setIfInBounds_toArray, List.set_cons_zero, List.set_cons_succ, List.nil_append, List.cons_append]; rfl) (Below.refl _ _)
                      simp only [Act.put, List.setIfInBounds_toArray, List.set_cons_zero, List.set_cons_succ, List.nil_append, List.cons_append]
                      refine inv_val (i := 47) (by kernel_rfl) rfl rfl (fun w1 hS hd K hK => ?_) ?_
                      · (try dsimp only at hS); go_simp; exact hK.out _ _ (by simp only [Act.put, List.setIfInBounds_toArray, List.set_cons_zero, List.set_cons_succ, List.nil_append, List.cons_append]; rfl) (Below.refl _ _)
                      simp only [Act.put, List.setIfInBounds_toArray, List.set_cons_zero, List.set_cons_succ, List.nil_append, List.cons_append]
                      refine inv_val (i := 48) (by kernel_rfl) rfl rfl (fun w1 hS hd K hK => ?_) ?_
                      · (try dsimp only at hS); go_simp; exact hK.out _ _ (by simp only [Act.put, List.setIfInBounds_toArray, List.set_cons_zero, List.set_cons_succ, List.nil_append, List.cons_append]; rfl) (Below.refl _ _)
                      simp only [Act.put, List.setIfInBounds_toArray, List.set_cons_zero, List.set_cons_succ, List.nil_append, List.cons_append]
                      refine inv_val (i := 49) (by kernel_rfl) rfl rfl (fun w1 hS hd K hK => ?_) ?_
                      · (try dsimp only at hS); go_simp; exact hK.out _ _ (by simp only [Act.put, List.setIfInBounds_toArray, List.set_cons_zero, List.set_cons_succ, List.nil_append, List.cons_append]; rfl) (Below.refl _ _)
                      simp only [Act.put, List.setIfInBounds_toArray, List.set_cons_zero, List.set_cons_succ, List.nil_append, List.cons_append]
                      refine inv_val (i := 50) (by kernel_rfl) rfl rfl (fun w1 hS hd K hK => ?_) ?_
                      · (try dsimp only at hS); go_simp; exact hK.out _ _ (by simp only [Act.put, List.setIfInBounds_toArray, List.set_cons_zero, List.set_cons_succ, List.nil_append, List.cons_append]; rfl) (Below.refl _ _)
                      simp only [Act.put, List.setIfInBounds_toArray, List.set_cons_zero, List.set_cons_succ, List.nil_append, List.cons_append]
                      refine inv_val (i := 51) (by kernel_rfl) rfl rfl (fun w1 hS hd K hK => ?_) ?_
                      · (try dsimp only at hS); go_simp; exact hK.out _ _ (by simp only [Act.put, List.setIfInBounds_toArray, List.set_cons_zero, List.set_cons_succ, List.nil_append, List.cons_append]; rfl) (Below.refl _ _)
                      simp only [Act.put, List.setIfInBounds_toArray, List.set_cons_zero, List.set_cons_succ, List.nil_append, List.cons_append]
                      refine inv_done (by kernel_rfl) (fun w10 hS hd => ?_)
                      have HF10 := Lib.hid (chain HB.out hS.1.1)
                      clear hS hd c0 c1 c2 c3 d0 d1 d2 d3 p0 p1 hz9
                      go_wp2
                      go_ret
                      exact ⟨rfl, HF10.out⟩
                    · have hwas := HR5.out rfl
                      subst hwas
                      go_wp2_with fail
                      refine wp_region_inv (R := Blw) (S := (fun w' => (Below wr.heap.size wr w' ∧ RBox w' b1 xa xc xfa xfc ra ∧ RBox w' b2 ya yc yfa yfc rb) ∧ w'.cell? ⟨b1, 0, none⟩ = some (.int .i64 ra.now) ∧ w'.cell? ⟨b1, 1, none⟩ = some (.string ra.name) ∧ w'.cell? ⟨b1, 2, none⟩ = some (.slice xa ra.l.length xc) ∧ w'.cell? ⟨b1, 3, none⟩ = some (.slice xfa ra.fl.length xfc) ∧ w'.cell? ⟨b2, 0, none⟩ = some (.int .i64 rb.now) ∧ w'.cell? ⟨b2, 1, none⟩ = some (.string rb.name) ∧ w'.cell? ⟨b2, 2, none⟩ = some (.slice ya rb.l.length yc) ∧ w'.cell? ⟨b2, 3, none⟩ = some (.slice yfa rb.fl.length yfc) ∧ w'.cell? ⟨w.heap.size, 1, none⟩ = some (.slice (some ⟨b, o, none⟩) l.length pc) ∧ w'.cell? ⟨b, o + ti * 4 + 1, none⟩ = some (.int .i64 ev) ∧ w'.cell? ⟨fb, fo + ti, none⟩ = some (.int .i64 G))) 52 (Spec.val ?_ :: Spec.val ?_ :: Spec.val ?_ :: Spec.val ?_ :: Spec.val ?_ :: Spec.val ?_ :: Spec.val ?_ :: Spec.val ?_ :: Spec.val ?_ :: Spec.val ?_ :: Spec.val ?_ :: Spec.val ?_ :: Spec.val ?_ :: Spec.val ?_ :: Spec.val ?_ :: Spec.val ?_ :: Spec.val ?_ :: Spec.val ?_ :: Spec.val ?_ :: Spec.val ?_ :: Spec.val ?_ :: Spec.val ?_ :: Spec.val ?_ :: Spec.val ?_ :: Spec.val ?_ :: Spec.val ?_ :: Spec.val ?_ :: Spec.val ?_ :: Spec.val ?_ :: Spec.val ?_ :: Spec.val ?_ :: Spec.val ?_ :: Spec.val ?_ :: Spec.val ?_ :: Spec.val ?_ :: Spec.val ?_ :: Spec.val ?_ :: Spec.val ?_ :: Spec.val ?_ :: Spec.val ?_ :: Spec.val ?_ :: Spec.val ?_ :: Spec.val ?_ :: Spec.val ?_ :: Spec.val ?_ :: Spec.val ?_ :: Spec.val ?_ :: Spec.val ?_ :: Spec.val ?_ :: Spec.val ?_ :: Spec.val ?_ :: Spec.val ?_ :: []) (by kernel_rfl) (by kernel_rfl) rfl (fun w1 w2 h hb => ⟨⟨chain h.1.1 hb, h.1.2.1.step hb, h.1.2.2.step hb⟩, cell_step h.2.1 hb, cell_step h.2.2.1 hb, cell_step h.2.2.2.1 hb, cell_step h.2.2.2.2.1 hb, cell_step h.2.2.2.2.2.1 hb, cell_step h.2.2.2.2.2.2.1 hb, cell_step h.2.2.2.2.2.2.2.1 hb, cell_step h.2.2.2.2.2.2.2.2.1 hb, cell_step h.2.2.2.2.2.2.2.2.2.1 hb, cell_step h.2.2.2.2.2.2.2.2.2.2.1 hb, cell_step h.2.2.2.2.2.2.2.2.2.2.2 hb⟩) (⟨⟨HB9.out.drew, HX9.out.step (Below.refl _ _).drew, HY9.out.step (Below.refl _ _).drew⟩, c0, c1, c2, c3, d0, d1, d2, d3, p1, hz9, z5⟩) ?hm5
                      case' hm5 => skip
                      refine inv_val (i := 0) (by kernel_rfl) rfl rfl (fun w1 hS hd K hK => ?_) ?_
                      · (try dsimp only at hS); go_simp; refine (alive_any _).mono ?_; rintro e w2 ⟨rfl, hb⟩; exact hK.out _ _ (by simp only [Act.put, List.setIfInBounds_toArray, List.set_cons_zero, List.set_cons_succ, List.nil_append, List.cons_append]; rfl) hb
                      simp only [Act.put, List.setIfInBounds_toArray, List.set_cons_zero, List.set_cons_succ, List.nil_append, List.cons_append]
                      refine inv_val (i := 1) (by kernel_rfl) rfl rfl (fun w1 hS hd K hK => ?_) ?_
                      · (try dsimp only at hS); go_simp; exact hK.out _ _ (by simp only [Act.put, List.setIfInBounds_toArray, List.set_cons_zero, List.set_cons_succ, List.nil_append, List.cons_append]; rfl) (Below.refl _ _)
                      simp only [Act.put, List.setIfInBounds_toArray, List.set_cons_zero, List.set_cons_succ, List.nil_append, List.cons_append]
                      refine inv_val (i := 2) (by kernel_rfl) rfl rfl (fun w1 hS hd K hK => ?_) ?_
                      · (try dsimp only at hS); go_simp; exact hK.out _ _ (by simp only [Act.put, List.setIfInBounds_toArray, List.set_cons_zero, List.set_cons_succ, List.nil_append, List.cons_append]; rfl) (Below.refl _ _)
                      simp only [Act.put, List.setIfInBounds_toArray, List.set_cons_zero, List.set_cons_succ, List.nil_append, List.cons_append]
                      refine inv_val (i := 3) (by kernel_rfl) rfl rfl (fun w1 hS hd K hK => ?_) ?_
                      · (try dsimp only at hS); go_simp; exact hK.out _ _ (by simp only [Act.put, List.setIfInBounds_toArray, List.set_cons_zero, List.set_cons_succ, List.nil_append, List.cons_append]; rfl) (Below.refl _ _)
                      simp only [Act.put, List.setIfInBounds_toArray, List.set_cons_zero, List.set_cons_succ, List.nil_append, List.cons_append]
                      refine inv_val (i := 4) (by kernel_rfl) rfl rfl (fun w1 hS hd K hK => ?_) ?_
                      · (try dsimp only at hS); go_simp; refine (from_any _ ra ti _ hS.1.2.1.lies NA.out KT.out).mono ?_; rintro e w2 ⟨rfl, hb⟩; rw [← HFA.out]; exact hK.out _ _ (by simp only [Act.put, List.setIfInBounds_toArray, List.set_cons_zero, List.set_cons_succ, List.nil_append, List.cons_append]; rfl) hb
                      simp only [Act.put, List.setIfInBounds_toArray, List.set_cons_zero, List.set_cons_succ, List.nil_append, List.cons_append]
                      refine inv_val (i := 5) (by kernel_rfl) rfl rfl (fun w1 hS hd K hK => ?_) ?_
                      · (try dsimp only at hS); go_simp; exact hK.out _ _ (by simp only [Act.put, List.setIfInBounds_toArray, List.set_cons_zero, List.set_cons_succ, List.nil_append, List.cons_append]; rfl) (Below.refl _ _)
                      simp only [Act.put, List.setIfInBounds_toArray, List.set_cons_zero, List.set_cons_succ, List.nil_append, List.cons_append]
                      refine inv_val (i := 6) (by kernel_rfl) rfl rfl (fun w1 hS hd K hK => ?_) ?_
                      · (try dsimp only at hS); go_simp; exact hK.out _ _ (by simp only [Act.put, List.setIfInBounds_toArray, List.set_cons_zero, List.set_cons_succ, List.nil_append, List.cons_append]; rfl) (Below.refl _ _)
                      simp only [Act.put, List.setIfInBounds_toArray, List.set_cons_zero, List.set_cons_succ, List.nil_append, List.cons_append]
                      refine inv_val (i := 7) (by kernel_rfl) rfl rfl (fun w1 hS hd K hK => ?_) ?_
                      · (try dsimp only at hS); go_simp; refine (from_any _ rb ti _ hS.1.2.2.lies NB.out KT.out).mono ?_; rintro e w2 ⟨rfl, hb⟩; rw [← HFB.out]; exact hK.out _ _ (by simp only [Act.put, List.setIfInBounds_toArray, List.set_cons_zero, List.set_cons_succ, List.nil_append, List.cons_append]; rfl) hb
                      simp only [Act.put, List.setIfInBounds_toArray, List.set_cons_zero, List.set_cons_succ, List.nil_append, List.cons_append]
                      refine inv_val (i := 8) (by kernel_rfl) rfl rfl (fun w1 hS hd K hK => ?_) ?_
                      · (try dsimp only at hS); go_simp; exact hK.out _ _ (by simp only [Act.put, List.setIfInBounds_toArray, List.set_cons_zero, List.set_cons_succ, List.nil_append, List.cons_append]; rfl) (Below.refl _ _)
                      simp only [Act.put, List.setIfInBounds_toArray, List.set_cons_zero, List.set_cons_succ, List.nil_append, List.cons_append]
                      refine inv_val (i := 9) (by kernel_rfl) rfl rfl (fun w1 hS hd K hK => ?_) ?_
                      · (try dsimp only at hS); go_simp; exact hK.out _ _ (by simp only [Act.put, List.setIfInBounds_toArray, List.set_cons_zero, List.set_cons_succ, List.nil_append, List.cons_append]; rfl) (Below.refl _ _)
                      simp only [Act.put, List.setIfInBounds_toArray, List.set_cons_zero, List.set_cons_succ, List.nil_append, List.cons_append]
                      refine inv_val (i := 10) (by kernel_rfl) rfl rfl (fun w1 hS hd K hK => ?_) ?_
                      · (try dsimp only at hS); go_simp; exact hK.out _ _ (by simp only [Act.put, List.setIfInBounds_toArray, List.set_cons_zero, List.set_cons_succ, List.nil_append, List.cons_append]; rfl) (Below.refl _ _)
                      simp only [Act.put, List.setIfInBounds_toArray, List.set_cons_zero, List.set_cons_succ, List.nil_append, List.cons_append]
                      refine inv_val (i := 11) (by kernel_rfl) rfl rfl (fun w1 hS hd K hK => ?_) ?_
                      · (try dsimp only at hS); go_simp; exact hK.out _ _ (by simp only [Act.put, List.setIfInBounds_toArray, List.set_cons_zero, List.set_cons_succ, List.nil_append, List.cons_append]; rfl) (Below.refl _ _)
                      simp only [Act.put, List.setIfInBounds_toArray, List.set_cons_zero, List.set_cons_succ, List.nil_append, List.cons_append]
                      refine inv_val (i := 12) (by kernel_rfl) rfl rfl (fun w1 hS hd K hK => ?_) ?_
                      · (try dsimp only at hS); go_simp; exact hK.out _ _ (by simp only [Act.put, List.setIfInBounds_toArray, List.set_cons_zero, List.set_cons_succ, List.nil_append, List.cons_append]; rfl) (Below.refl _ _)
                      simp only [Act.put, List.setIfInBounds_toArray, List.set_cons_zero, List.set_cons_succ, List.nil_append, List.cons_append]
                      refine inv_val (i := 13) (by kernel_rfl) rfl rfl (fun w1 hS hd K hK => ?_) ?_
                      · (try dsimp only at hS); go_simp; refine (from_any _ ra ti _ hS.1.2.1.lies NA.out KT.out).mono ?_; rintro e w2 ⟨rfl, hb⟩; rw [← HFA.out]; exact hK.out _ _ (by simp only [Act.put, List.setIfInBounds_toArray, List.set_cons_zero, List.set_cons_succ, List.nil_append, List.cons_append]; rfl) hb
                      simp only [Act.put, List.setIfInBounds_toArray, List.set_cons_zero, List.set_cons_succ, List.nil_append, List.cons_append]
                      refine inv_val (i := 14) (by kernel_rfl) rfl rfl (fun w1 hS hd K hK => ?_) ?_
                      · (try dsimp only at hS); go_simp; exact hK.out _ _ (by simp only [Act.put, List.setIfInBounds_toArray, List.set_cons_zero, List.set_cons_succ, List.nil_append, List.cons_append]; rfl) (Below.refl _ _)
                      simp only [Act.put, List.setIfInBounds_toArray, List.set_cons_zero, List.set_cons_succ, List.nil_append, List.cons_append]
                      refine inv_val (i := 15) (by kernel_rfl) rfl rfl (fun w1 hS hd K hK => ?_) ?_
                      · (try dsimp only at hS); go_simp; exact hK.out _ _ (by simp only [Act.put, List.setIfInBounds_toArray, List.set_cons_zero, List.set_cons_succ, List.nil_append, List.cons_append]; rfl) (Below.refl _ _)
                      simp only [Act.put, List.setIfInBounds_toArray, List.set_cons_zero, List.set_cons_succ, List.nil_append, List.cons_append]
                      refine inv_val (i := 16) (by kernel_rfl) rfl rfl (fun w1 hS hd K hK => ?_) ?_
                      · (try dsimp only at hS); go_simp; exact hK.out _ _ (by simp only [Act.put, List.setIfInBounds_toArray, List.set_cons_zero, List.set_cons_succ, List.nil_append, List.cons_append]; rfl) (Below.refl _ _)
                      simp only [Act.put, List.setIfInBounds_toArray, List.set_cons_zero, List.set_cons_succ, List.nil_append, List.cons_append]
                      refine inv_val (i := 17) (by kernel_rfl) rfl rfl (fun w1 hS hd K hK => ?_) ?_
                      · (try dsimp only at hS); go_simp; exact hK.out _ _ (by simp only [Act.put, List.setIfInBounds_toArray, List.set_cons_zero, List.set_cons_succ, List.nil_append, List.cons_append]; rfl) (Below.refl _ _)
                      simp only [Act.put, List.setIfInBounds_toArray, List.set_cons_zero, List.set_cons_succ, List.nil_append, List.cons_append]
                      refine inv_val (i := 18) (by kernel_rfl) rfl rfl (fun w1 hS hd K hK => ?_) ?_
                      · (try dsimp only at hS); go_simp; exact hK.out _ _ (by simp only [Act.put, List.setIfInBounds_toArray, List.set_cons_zero, List.set_cons_succ, List.nil_append, List.cons_append]; rfl) (Below.refl _ _)
                      simp only [Act.put, List.setIfInBounds_toArray, List.set_cons_zero, List.set_cons_succ, List.nil_append, List.cons_append]
                      refine inv_val (i := 19) (by kernel_rfl) rfl rfl (fun w1 hS hd K hK => ?_) ?_
                      · (try dsimp only at hS); go_simp; exact hK.out _ _ (by simp only [Act.put, List.setIfInBounds_toArray, List.set_cons_zero, List.set_cons_succ, List.nil_append, List.cons_append]; rfl) (Below.refl _ _)
                      simp only [Act.put, List.setIfInBounds_toArray, List.set_cons_zero, List.set_cons_succ, List.nil_append, List.cons_append]
                      refine inv_val (i := 20) (by kernel_rfl) rfl rfl (fun w1 hS hd K hK => ?_) ?_
                      · (try dsimp only at hS); go_simp; exact hK.out _ _ (by simp only [Act.put, List.setIfInBounds_toArray, List.set_cons_zero, List.set_cons_succ, List.nil_append, List.cons_append]; rfl) (Below.refl _ _)
                      simp only [Act.put, List.setIfInBounds_toArray, List.set_cons_zero, List.set_cons_succ, List.nil_append, List.cons_append]
                      refine inv_val (i := 21) (by kernel_rfl) rfl rfl (fun w1 hS hd K hK => ?_) ?_
                      · (try dsimp only at hS); go_simp; exact hK.out _ _ (by simp only [Act.put, List.setIfInBounds_toArray, List.set_cons_zero, List.set_cons_succ, List.nil_append, List.cons_append]; rfl) (Below.refl _ _)
                      simp only [Act.put, List.setIfInBounds_toArray, List.set_cons_zero, List.set_cons_succ, List.nil_append, List.cons_append]
                      refine inv_val (i := 22) (by kernel_rfl) rfl rfl (fun w1 hS hd K hK => ?_) ?_
                      · (try dsimp only at hS); go_simp; exact hK.out _ _ (by simp only [Act.put, List.setIfInBounds_toArray, List.set_cons_zero, List.set_cons_succ, List.nil_append, List.cons_append]; rfl) (Below.refl _ _)
                      simp only [Act.put, List.setIfInBounds_toArray, List.set_cons_zero, List.set_cons_succ, List.nil_append, List.cons_append]
                      refine inv_val (i := 23) (by kernel_rfl) rfl rfl (fun w1 hS hd K hK => ?_) ?_
                      · (try dsimp only at hS); go_simp; exact hK.out _ _ (by simp only [Act.put, List.setIfInBounds_toArray, List.set_cons_zero, List.set_cons_succ, List.nil_append, List.cons_append]; rfl) (Below.refl _ _)
                      simp only [Act.put, List.setIfInBounds_toArray, List.set_cons_zero, List.set_cons_succ, List.nil_append, List.cons_append]
                      refine inv_val (i := 24) (by kernel_rfl) rfl rfl (fun w1 hS hd K hK => ?_) ?_
                      · (try dsimp only at hS); go_simp; exact hK.out _ _ (by simp only [Act.put, List.setIfInBounds_toArray, List.set_cons_zero, List.set_cons_succ, List.nil_append, List.cons_append]; rfl) (Below.refl _ _)
                      simp only [Act.put, List.setIfInBounds_toArray, List.set_cons_zero, List.set_cons_succ, List.nil_append, List.cons_append]
                      refine inv_val (i := 25) (by kernel_rfl) rfl rfl (fun w1 hS hd K hK => ?_) ?_
                      · (try dsimp only at hS); go_simp; exact hK.out _ _ (by simp only [Act.put, List.setIfInBounds_toArray, List.set_cons_zero, List.set_cons_succ, List.nil_append, List.cons_append]; rfl) (Below.refl _ _)
                      simp only [Act.put, List.setIfInBounds_toArray, List.set_cons_zero, List.set_cons_succ, List.nil_append, List.cons_append]
                      refine inv_val (i := 26) (by kernel_rfl) rfl rfl (fun w1 hS hd K hK => ?_) ?_
                      · (try dsimp only at hS); go_simp; exact hK.out _ _ (by simp only [Act.put, List.setIfInBounds_toArray, List.set_cons_zero, List.set_cons_succ, List.nil_append, List.cons_append]; rfl) (Below.refl _ _)
                      simp only [Act.put, List.setIfInBounds_toArray, List.set_cons_zero, List.set_cons_succ, List.nil_append, List.cons_append]
                      refine inv_val (i := 27) (by kernel_rfl) rfl rfl (fun w1 hS hd K hK => ?_) ?_
                      · (try dsimp only at hS); go_simp; exact hK.out _ _ (by simp only [Act.put, List.setIfInBounds_toArray, List.set_cons_zero, List.set_cons_succ, List.nil_append, List.cons_append]; rfl) (Below.refl _ _)
                      simp only [Act.put, List.setIfInBounds_toArray, List.set_cons_zero, List.set_cons_succ, List.nil_append, List.cons_append]
                      refine inv_val (i := 28) (by kernel_rfl) rfl rfl (fun w1 hS hd K hK => ?_) ?_
                      · (try dsimp only at hS); go_simp; exact hK.out _ _ (by simp only [Act.put, List.setIfInBounds_toArray, List.set_cons_zero, List.set_cons_succ, List.nil_append, List.cons_append]; rfl) (Below.refl _ _)
                      simp only [Act.put, List.setIfInBounds_toArray, List.set_cons_zero, List.set_cons_succ, List.nil_append, List.cons_append]
                      refine inv_val (i := 29) (by kernel_rfl) rfl rfl (fun w1 hS hd K hK => ?_) ?_
                      · (try dsimp only at hS); go_simp; exact hK.out _ _ (by simp only [Act.put, List.setIfInBounds_toArray, List.set_cons_zero, List.set_cons_succ, List.nil_append, List.cons_append]; rfl) (Below.refl _ _)
                      simp only [Act.put, List.setIfInBounds_toArray, List.set_cons_zero, List.set_cons_succ, List.nil_append, List.cons_append]
                      refine inv_val (i := 30) (by kernel_rfl) rfl rfl (fun w1 hS hd K hK => ?_) ?_
                      · (try dsimp only at hS); go_simp; exact hK.out _ _ (by simp only [Act.put, List.setIfInBounds_toArray, List.set_cons_zero, List.set_cons_succ, List.nil_append, List.cons_append]; rfl) (Below.refl _ _)
                      simp only [Act.put, List.setIfInBounds_toArray, List.set_cons_zero, List.set_cons_succ, List.nil_append, List.cons_append]
                      refine inv_val (i := 31) (by kernel_rfl) rfl rfl (fun w1 hS hd K hK => ?_) ?_
                      · (try dsimp only at hS); go_simp; exact hK.out _ _ (by simp only [Act.put, List.setIfInBounds_toArray, List.set_cons_zero, List.set_cons_succ, List.nil_append, List.cons_append]; rfl) (Below.refl _ _)
                      simp only [Act.put, List.setIfInBounds_toArray, List.set_cons_zero, List.set_cons_succ, List.nil_append, List.cons_append]
                      refine inv_val (i := 32) (by kernel_rfl) rfl rfl (fun w1 hS hd K hK => ?_) ?_
                      · (try dsimp only at hS); go_simp; exact hK.out _ _ (by simp only [Act.put, List.setIfInBounds_toArray, List.set_cons_zero, List.set_cons_succ, List.nil_append, List.cons_append]; rfl) (Below.refl _ _)
                      simp only [Act.put, List.setIfInBounds_toArray, List.set_cons_zero, List.set_cons_succ, List.nil_append, List.cons_append]
                      refine inv_val (i := 33) (by kernel_rfl) rfl rfl (fun w1 hS hd K hK => ?_) ?_
                      · (try dsimp only at hS); go_simp; exact hK.out _ _ (by simp only [Act.put, List.setIfInBounds_toArray, List.set_cons_zero, List.set_cons_succ, List.nil_append, List.cons_append]; rfl) (Below.refl _ _)
                      simp only [Act.put, List.setIfInBounds_toArray, List.set_cons_zero, List.set_cons_succ, List.nil_append, List.cons_append]
                      refine inv_val (i := 34) (by kernel_rfl) rfl rfl (fun w1 hS hd K hK => ?_) ?_
                      · (try dsimp only at hS); go_simp; exact hK.out _ _ (by simp only [Act.put, List.setIfInBounds_toArray, List.set_cons_zero, List.set_cons_succ, List.nil_append, List.cons_append]; rfl) (Below.refl _ _)
                      simp only [Act.put, List.setIfInBounds_toArray, List.set_cons_zero, List.set_cons_succ, List.nil_append, List.cons_append]
                      refine inv_val (i := 35) (by kernel_rfl) rfl rfl (fun w1 hS hd K hK => ?_) ?_
                      · (try dsimp only at hS); go_simp; exact hK.out _ _ (by simp only [Act.put, List.setIfInBounds_toArray, List.set_cons_zero, List.set_cons_succ, List.nil_append, List.cons_append]; rfl) (Below.refl _ _)
                      simp only [Act.put, List.setIfInBounds_toArray, List.set_cons_zero, List.set_cons_succ, List.nil_append, List.cons_append]
                      refine inv_val (i := 36) (by kernel_rfl) rfl rfl (fun w1 hS hd K hK => ?_) ?_
                      · (try dsimp only at hS); go_simp; exact hK.out _ _ (by simp only [Act.put, List.setIfInBounds_toArray, List.set_cons_zero, List.set_cons_succ, List.nil_append, List.cons_append]; rfl) (Below.refl _ _)
                      simp only [Act.put, List.setIfInBounds_toArray, List.set_cons_zero, List.set_cons_succ, List.nil_append, List.cons_append]
                      refine inv_val (i := 37) (by kernel_rfl) rfl rfl (fun w1 hS hd K hK => ?_) ?_
                      · (try dsimp only at hS); go_simp; exact hK.out _ _ (by simp only [Act.put, List.setIfInBounds_toArray, List.set_cons_zero, List.set_cons_succ, List.nil_append, List.cons_append]; rfl) (Below.refl _ _)
                      simp only [Act.put, List.setIfInBounds_toArray, List.set_cons_zero, List.set_cons_succ, List.nil_append, List.cons_append]
                      refine inv_val (i := 38) (by kernel_rfl) rfl rfl (fun w1 hS hd K hK => ?_) ?_
                      · (try dsimp only at hS); go_simp; exact hK.out _ _ (by simp only [Act.put, List.setIfInBounds_toArray, List.set_cons_zero, List.set_cons_succ, List.nil_append, List.cons_append]; rfl) (Below.refl _ _)
                      simp only [Act.put, List.setIfInBounds_toArray, List.set_cons_zero, List.set_cons_succ, List.nil_append, List.cons_append]
                      refine inv_val (i := 39) (by kernel_rfl) rfl rfl (fun w1 hS hd K hK => ?_) ?_
                      · (try dsimp only at hS); go_simp; exact hK.out _ _ (by simp only [Act.put, List.setIfInBounds_toArray, List.set_cons_zero, List.set_cons_succ, List.nil_append, List.cons_append]; rfl) (Below.refl _ _)
                      simp only [Act.put, List.setIfInBounds_toArray, List.set_cons_zero, List.set_cons_succ, List.nil_append, List.cons_append]
                      refine inv_val (i := 40) (by kernel_rfl) rfl rfl (fun w1 hS hd K hK => ?_) ?_
                      · (try dsimp only at hS); go_simp; exact hK.out _ _ (by simp only [Act.put, List.setIfInBounds_toArray, List.set_cons_zero, List.set_cons_succ, List.nil_append, List.cons_append]; rfl) (Below.refl _ _)
                      simp only [Act.put, List.setIfInBounds_toArray, List.set_cons_zero, List.set_cons_succ, List.nil_append, List.cons_append]
                      refine inv_val (i := 41) (by kernel_rfl) rfl rfl (fun w1 hS hd K hK => ?_) ?_
                      · (try dsimp only at hS); go_simp; exact hK.out _ _ (by simp only [Act.put, List.setIfInBounds_toArray, List.set_cons_zero, List.set_cons_succ, List.nil_append, List.cons_append]; rfl) (Below.refl _ _)
                      simp only [Act.put, List.setIfInBounds_toArray, List.set_cons_zero, List.set_cons_succ, List.nil_append, List.cons_append]
                      refine inv_val (i := 42) (by kernel_rfl) rfl rfl (fun w1 hS hd K hK => ?_) ?_
                      · (try dsimp only at hS); go_simp; exact hK.out _ _ (by simp only [Act.put, List.setIfInBounds_toArray, List.set_cons_zero, List.set_cons_succ, List.nil_append, List.cons_append]; rfl) (Below.refl _ _)
                      simp only [Act.put, List.setIfInBounds_toArray, List.set_cons_zero, List.set_cons_succ, List.nil_append, List.cons_append]
                      refine inv_val (i := 43) (by kernel_rfl) rfl rfl (fun w1 hS hd K hK => ?_) ?_
                      · (try dsimp only at hS); go_simp; refine (from_any _ ra ti _ hS.1.2.1.lies NA.out KT.out).mono ?_; rintro e w2 ⟨rfl, hb⟩; rw [← HFA.out]; exact hK.out _ _ (by simp only [Act.put, List.setIfInBounds_toArray, List.set_cons_zero, List.set_cons_succ, List.nil_append, List.cons_append]; rfl) hb
                      simp only [Act.put, List.setIfInBounds_toArray, List.set_cons_zero, List.set_cons_succ, List.nil_append, List.cons_append]
                      refine inv_val (i := 44) (by kernel_rfl) rfl rfl (fun w1 hS hd K hK => ?_) ?_
                      · (try dsimp only at hS); go_simp; exact hK.out _ _ (by simp only [Act.put, List.setIfInBounds_toArray, List.set_cons_zero, List.set_cons_succ, List.nil_append, List.cons_append]; rfl) (Below.refl _ _)
                      simp only [Act.put, List.setIfInBounds_toArray, List.set_cons_zero, List.set_cons_succ, List.nil_append, List.cons_append]
                      refine inv_val (i := 45) (by kernel_rfl) rfl rfl (fun w1 hS hd K hK => ?_) ?_
                      · (try dsimp only at hS); go_simp; exact hK.out _ _ (by simp only [Act.put, List.setIfInBounds_toArray, List.set_cons_zero, List.set_cons_succ, List.nil_append, List.cons_append]; rfl) (Below.refl _ _)
                      simp only [Act.put, List.setIfInBounds_toArray, List.set_cons_zero, List.set_cons_succ, List.nil_append, List.cons_append]
                      refine inv_val (i := 46) (by kernel_rfl) rfl rfl (fun w1 hS hd K hK => ?_) ?_
                      · (try dsimp only at hS); go_simp; exact hK.out _ _ (by simp only [Act.put, List.setIfInBounds_toArray, List.set_cons_zero, List.set_cons_succ, List.nil_append, List.cons_append]; rfl) (Below.refl _ _)
                      simp only [Act.put, List.setIfInBounds_toArray, List.set_cons_zero, List.set_cons_succ, List.nil_append, List.cons_append]
                      refine inv_val (i := 47) (by kernel_rfl) rfl rfl (fun w1 hS hd K hK => ?_) ?_
                      · (try dsimp only at hS); go_simp; exact hK.out _ _ (by simp only [Act.put, List.setIfInBounds_toArray, List.set_cons_zero, List.set_cons_succ, List.nil_append, List.cons_append]; rfl) (Below.refl _ _)
                      simp only [Act.put, List.setIfInBounds_toArray, List.set_cons_zero, List.set_cons_succ, List.nil_append, List.cons_append]
                      refine inv_val (i := 48) (by kernel_rfl) rfl rfl (fun w1 hS hd K hK => ?_) ?_
                      · (try dsimp only at hS); go_simp; exact hK.out _ _ (by simp only [Act.put, List.setIfInBounds_toArray, List.set_cons_zero, List.set_cons_succ, List.nil_append, List.cons_append]; rfl) (Below.refl _ _)
                      simp only [Act.put, List.setIfInBounds_toArray, List.set_cons_zero, List.set_cons_succ, List.nil_append, List.cons_append]
                      refine inv_val (i := 49) (by kernel_rfl) rfl rfl (fun w1 hS hd K hK => ?_) ?_
                      · (try dsimp only at hS); go_simp; exact hK.out _ _ (by simp only [Act.put, List.setIfInBounds_toArray, List.set_cons_zero, List.set_cons_succ, List.nil_append, List.cons_append]; rfl) (Below.refl _ _)
                      simp only [Act.put, List.setIfInBounds_toArray, List.set_cons_zero, List.set_cons_succ, List.nil_append, List.cons_append]
                      refine inv_val (i := 50) (by kernel_rfl) rfl rfl (fun w1 hS hd K hK => ?_) ?_
                      · (try dsimp only at hS); go_simp; exact hK.out _ _ (by simp only [Act.put, List.setIfInBounds_toArray, List.set_cons_zero, List.set_cons_succ, List.nil_append, List.cons_append]; rfl) (Below.refl _ _)
                      simp only [Act.put, List.setIfInBounds_toArray, List.set_cons_zero, List.set_cons_succ, List.nil_append, List.cons_append]
                      refine inv_val (i := 51) (by kernel_rfl) rfl rfl (fun w1 hS hd K hK => ?_) ?_
                      · (try dsimp only at hS); go_simp; exact hK.out _ _ (by simp only [Act.put, List.setIfInBounds_toArray, List.set_cons_zero, List.set_cons_succ, List.nil_append, List.cons_append]; rfl) (Below.refl _ _)
                      simp only [Act.put, List.setIfInBounds_toArray, List.set_cons_zero, List.set_cons_succ, List.nil_append, List.cons_append]
                      refine inv_done (by kernel_rfl) (fun w10 hS hd => ?_)
                      have HF10 := Lib.hid (chain HB.out hS.1.1)
                      clear hS hd c0 c1 c2 c3 d0 d1 d2 d3 p0 p1 hz9
                      go_wp2
                      go_ret
                      exact ⟨rfl, HF10.out⟩
                  · have hik2 : decide (k ≤ ti) = true := by simp; omega
                    cases is
                    · go_wp2_with fail
                      refine wp_region_inv (R := Blw) (S := (fun w' => (Below wr.heap.size wr w' ∧ RBox w' b1 xa xc xfa xfc ra ∧ RBox w' b2 ya yc yfa yfc rb) ∧ w'.cell? ⟨b1, 0, none⟩ = some (.int .i64 ra.now) ∧ w'.cell? ⟨b1, 1, none⟩ = some (.string ra.name) ∧ w'.cell? ⟨b1, 2, none⟩ = some (.slice xa ra.l.length xc) ∧ w'.cell? ⟨b1, 3, none⟩ = some (.slice xfa ra.fl.length xfc) ∧ w'.cell? ⟨b2, 0, none⟩ = some (.int .i64 rb.now) ∧ w'.cell? ⟨b2, 1, none⟩ = some (.string rb.name) ∧ w'.cell? ⟨b2, 2, none⟩ = some (.slice ya rb.l.length yc) ∧ w'.cell? ⟨b2, 3, none⟩ = some (.slice yfa rb.fl.length yfc) ∧ w'.cell? ⟨w.heap.size, 1, none⟩ = some (.slice (some ⟨b, o, none⟩) l.length pc) ∧ w'.cell? ⟨b, o + ti * 4 + 1, none⟩ = some (.int .i64 ev))) 52 (Spec.val ?_ :: Spec.val ?_ :: Spec.val ?_ :: Spec.val ?_ :: Spec.val ?_ :: Spec.val ?_ :: Spec.val ?_ :: Spec.val ?_ :: Spec.val ?_ :: Spec.val ?_ :: Spec.val ?_ :: Spec.val ?_ :: Spec.val ?_ :: Spec.val ?_ :: Spec.val ?_ :: Spec.val ?_ :: Spec.val ?_ :: Spec.val ?_ :: Spec.val ?_ :: Spec.val ?_ :: Spec.val ?_ :: Spec.val ?_ :: Spec.val ?_ :: Spec.val ?_ :: Spec.val ?_ :: Spec.val ?_ :: Spec.val ?_ :: Spec.val ?_ :: Spec.val ?_ :: Spec.val ?_ :: Spec.val ?_ :: Spec.val ?_ :: Spec.val ?_ :: Spec.val ?_ :: Spec.val ?_ :: Spec.val ?_ :: Spec.val ?_ :: Spec.val ?_ :: Spec.val ?_ :: Spec.val ?_ :: Spec.val ?_ :: Spec.val ?_ :: Spec.val ?_ :: Spec.val ?_ :: Spec.val ?_ :: Spec.val ?_ :: Spec.val ?_ :: Spec.val ?_ :: Spec.val ?_ :: Spec.val ?_ :: Spec.val ?_ :: Spec.val ?_ :: []) (by kernel_rfl) (by kernel_rfl) rfl (fun w1 w2 h hb => ⟨⟨chain h.1.1 hb, h.1.2.1.step hb, h.1.2.2.step hb⟩, cell_step h.2.1 hb, cell_step h.2.2.1 hb, cell_step h.2.2.2.1 hb, cell_step h.2.2.2.2.1 hb, cell_step h.2.2.2.2.2.1 hb, cell_step h.2.2.2.2.2.2.1 hb, cell_step h.2.2.2.2.2.2.2.1 hb, cell_step h.2.2.2.2.2.2.2.2.1 hb, cell_step h.2.2.2.2.2.2.2.2.2.1 hb, cell_step h.2.2.2.2.2.2.2.2.2.2 hb⟩) (⟨⟨HB9.out.drew, HX9.out.step (Below.refl _ _).drew, HY9.out.step (Below.refl _ _).drew⟩, c0, c1, c2, c3, d0, d1, d2, d3, p1, hz9⟩) ?hm6
                      case' hm6 => skip
                      refine inv_val (i := 0) (by kernel_rfl) rfl rfl (fun w1 hS hd K hK => ?_) ?_
                      · (try dsimp only at hS); go_simp; refine (alive_any _).mono ?_; rintro e w2 ⟨rfl, hb⟩; exact hK.out _ _ (by simp only [Act.put, List.setIfInBounds_toArray, List.set_cons_zero, List.set_cons_succ, List.nil_append, List.cons_append]; rfl) hb
                      simp only [Act.put, List.setIfInBounds_toArray, List.set_cons_zero, List.set_cons_succ, List.nil_append, List.cons_append]
                      refine inv_val (i := 1) (by kernel_rfl) rfl rfl (fun w1 hS hd K hK => ?_) ?_
                      · (try dsimp only at hS); go_simp; exact hK.out _ _ (by simp only [Act.put, List.setIfInBounds_toArray, List.set_cons_zero, List.set_cons_succ, List.nil_append, List.cons_append]; rfl) (Below.refl _ _)
                      simp only [Act.put, List.setIfInBounds_toArray, List.set_cons_zero, List.set_cons_succ, List.nil_append, List.cons_append]
                      refine inv_val (i := 2) (by kernel_rfl) rfl rfl (fun w1 hS hd K hK => ?_) ?_
                      · (try dsimp only at hS); go_simp; exact hK.out _ _ (by simp only [Act.put, List.setIfInBounds_toArray, List.set_cons_zero, List.set_cons_succ, List.nil_append, List.cons_append]; rfl) (Below.refl _ _)
                      simp only [Act.put, List.setIfInBounds_toArray, List.set_cons_zero, List.set_cons_succ, List.nil_append, List.cons_append]
                      refine inv_val (i := 3) (by kernel_rfl) rfl rfl (fun w1 hS hd K hK => ?_) ?_
                      · (try dsimp only at hS); go_simp; exact hK.out _ _ (by simp only [Act.put, List.setIfInBounds_toArray, List.set_cons_zero, List.set_cons_succ, List.nil_append, List.cons_append]; rfl) (Below.refl _ _)
                      simp only [Act.put, List.setIfInBounds_toArray, List.set_cons_zero, List.set_cons_succ, List.nil_append, List.cons_append]
                      refine inv_val (i := 4) (by kernel_rfl) rfl rfl (fun w1 hS hd K hK => ?_) ?_
                      · (try dsimp only at hS); go_simp; refine (from_any _ ra ti _ hS.1.2.1.lies NA.out KT.out).mono ?_; rintro e w2 ⟨rfl, hb⟩; rw [← HFA.out]; exact hK.out _ _ (by simp only [Act.put, List.setIfInBounds_toArray, List.set_cons_zero, List.set_cons_succ, List.nil_append, List.cons_append]; rfl) hb
                      simp only [Act.put, List.setIfInBounds_toArray, List.set_cons_zero, List.set_cons_succ, List.nil_append, List.cons_append]
                      refine inv_val (i := 5) (by kernel_rfl) rfl rfl (fun w1 hS hd K hK => ?_) ?_
                      · (try dsimp only at hS); go_simp; exact hK.out _ _ (by simp only [Act.put, List.setIfInBounds_toArray, List.set_cons_zero, List.set_cons_succ, List.nil_append, List.cons_append]; rfl) (Below.refl _ _)
                      simp only [Act.put, List.setIfInBounds_toArray, List.set_cons_zero, List.set_cons_succ, List.nil_append, List.cons_append]
                      refine inv_val (i := 6) (by kernel_rfl) rfl rfl (fun w1 hS hd K hK => ?_) ?_
                      · (try dsimp only at hS); go_simp; exact hK.out _ _ (by simp only [Act.put, List.setIfInBounds_toArray, List.set_cons_zero, List.set_cons_succ, List.nil_append, List.cons_append]; rfl) (Below.refl _ _)
                      simp only [Act.put, List.setIfInBounds_toArray, List.set_cons_zero, List.set_cons_succ, List.nil_append, List.cons_append]
                      refine inv_val (i := 7) (by kernel_rfl) rfl rfl (fun w1 hS hd K hK => ?_) ?_
                      · (try dsimp only at hS); go_simp; refine (from_any _ rb ti _ hS.1.2.2.lies NB.out KT.out).mono ?_; rintro e w2 ⟨rfl, hb⟩; rw [← HFB.out]; exact hK.out _ _ (by simp only [Act.put, List.setIfInBounds_toArray, List.set_cons_zero, List.set_cons_succ, List.nil_append, List.cons_append]; rfl) hb
                      simp only [Act.put, List.setIfInBounds_toArray, List.set_cons_zero, List.set_cons_succ, List.nil_append, List.cons_append]
                      refine inv_val (i := 8) (by kernel_rfl) rfl rfl (fun w1 hS hd K hK => ?_) ?_
                      · (try dsimp only at hS); go_simp; exact hK.out _ _ (by simp only [Act.put, List.setIfInBounds_toArray, List.set_cons_zero, List.set_cons_succ, List.nil_append, List.cons_append]; rfl) (Below.refl _ _)
                      simp only [Act.put, List.setIfInBounds_toArray, List.set_cons_zero, List.set_cons_succ, List.nil_append, List.cons_append]
                      refine inv_val (i := 9) (by kernel_rfl) rfl rfl (fun w1 hS hd K hK => ?_) ?_
                      · (try dsimp only at hS); go_simp; exact hK.out _ _ (by simp only [Act.put, List.setIfInBounds_toArray, List.set_cons_zero, List.set_cons_succ, List.nil_append, List.cons_append]; rfl) (Below.refl _ _)
                      simp only [Act.put, List.setIfInBounds_toArray, List.set_cons_zero, List.set_cons_succ, List.nil_append, List.cons_append]
                      refine inv_val (i := 10) (by kernel_rfl) rfl rfl (fun w1 hS hd K hK => ?_) ?_
                      · (try dsimp only at hS); go_simp; exact hK.out _ _ (by simp only [Act.put, List.setIfInBounds_toArray, List.set_cons_zero, List.set_cons_succ, List.nil_append, List.cons_append]; rfl) (Below.refl _ _)
                      simp only [Act.put, List.setIfInBounds_toArray, List.set_cons_zero, List.set_cons_succ, List.nil_append, List.cons_append]
                      refine inv_val (i := 11) (by kernel_rfl) rfl rfl (fun w1 hS hd K hK => ?_) ?_
                      · (try dsimp only at hS); go_simp; exact hK.out _ _ (by simp only [Act.put, List.setIfInBounds_toArray, List.set_cons_zero, List.set_cons_succ, List.nil_append, List.cons_append]; rfl) (Below.refl _ _)
                      simp only [Act.put, List.setIfInBounds_toArray, List.set_cons_zero, List.set_cons_succ, List.nil_append, List.cons_append]
                      refine inv_val (i := 12) (by kernel_rfl) rfl rfl (fun w1 hS hd K hK => ?_) ?_
                      · (try dsimp only at hS); go_simp; exact hK.out _ _ (by simp only [Act.put, List.setIfInBounds_toArray, List.set_cons_zero, List.set_cons_succ, List.nil_append, List.cons_append]; rfl) (Below.refl _ _)
                      simp only [Act.put, List.setIfInBounds_toArray, List.set_cons_zero, List.set_cons_succ, List.nil_append, List.cons_append]
                      refine inv_val (i := 13) (by kernel_rfl) rfl rfl (fun w1 hS hd K hK => ?_) ?_
                      · (try dsimp only at hS); go_simp; refine (from_any _ ra ti _ hS.1.2.1.lies NA.out KT.out).mono ?_; rintro e w2 ⟨rfl, hb⟩; rw [← HFA.out]; exact hK.out _ _ (by simp only [Act.put, List.setIfInBounds_toArray, List.set_cons_zero, List.set_cons_succ, List.nil_append, List.cons_append]; rfl) hb
                      simp only [Act.put, List.setIfInBounds_toArray, List.set_cons_zero, List.set_cons_succ, List.nil_append, List.cons_append]
                      refine inv_val (i := 14) (by kernel_rfl) rfl rfl (fun w1 hS hd K hK => ?_) ?_
                      · (try dsimp only at hS); go_simp; exact hK.out _ _ (by simp only [Act.put, List.setIfInBounds_toArray, List.set_cons_zero, List.set_cons_succ, List.nil_append, List.cons_append]; rfl) (Below.refl _ _)
                      simp only [Act.put, List.setIfInBounds_toArray, List.set_cons_zero, List.set_cons_succ, List.nil_append, List.cons_append]
                      refine inv_val (i := 15) (by kernel_rfl) rfl rfl (fun w1 hS hd K hK => ?_) ?_
                      · (try dsimp only at hS); go_simp; exact hK.out _ _ (by simp only [Act.put, List.setIfInBounds_toArray, List.set_cons_zero, List.set_cons_succ, List.nil_append, List.cons_append]; rfl) (Below.refl _ _)
                      simp only [Act.put, List.setIfInBounds_toArray, List.set_cons_zero, List.set_cons_succ, List.nil_append, List.cons_append]
                      refine inv_val (i := 16) (by kernel_rfl) rfl rfl (fun w1 hS hd K hK => ?_) ?_
                      · (try dsimp only at hS); go_simp; exact hK.out _ _ (by simp only [Act.put, List.setIfInBounds_toArray, List.set_cons_zero, List.set_cons_succ, List.nil_append, List.cons_append]; rfl) (Below.refl _ _)
                      simp only [Act.put, List.setIfInBounds_toArray, List.set_cons_zero, List.set_cons_succ, List.nil_append, List.cons_append]
                      refine inv_val (i := 17) (by kernel_rfl) rfl rfl (fun w1 hS hd K hK => ?_) ?_
                      · (try dsimp only at hS); go_simp; exact hK.out _ _ (by simp only [Act.put, List.setIfInBounds_toArray, List.set_cons_zero, List.set_cons_succ, List.nil_append, List.cons_append]; rfl) (Below.refl _ _)
                      simp only [Act.put, List.setIfInBounds_toArray, List.set_cons_zero, List.set_cons_succ, List.nil_append, List.cons_append]
                      refine inv_val (i := 18) (by kernel_rfl) rfl rfl (fun w1 hS hd K hK => ?_) ?_
                      · (try dsimp only at hS); go_simp; exact hK.out _ _ (by simp only [Act.put, List.setIfInBounds_toArray, List.set_cons_zero, List.set_cons_succ, List.nil_append, List.cons_append]; rfl) (Below.refl _ _)
                      simp only [Act.put, List.setIfInBounds_toArray, List.set_cons_zero, List.set_cons_succ, List.nil_append, List.cons_append]
                      refine inv_val (i := 19) (by kernel_rfl) rfl rfl (fun w1 hS hd K hK => ?_) ?_
                      · (try dsimp only at hS); go_simp; exact hK.out _ _ (by simp only [Act.put, List.setIfInBounds_toArray, List.set_cons_zero, List.set_cons_succ, List.nil_append, List.cons_append]; rfl) (Below.refl _ _)
                      simp only [Act.put, List.setIfInBounds_toArray, List.set_cons_zero, List.set_cons_succ, List.nil_append, List.cons_append]
                      refine inv_val (i := 20) (by kernel_rfl) rfl rfl (fun w1 hS hd K hK => ?_) ?_
                      · (try dsimp only at hS); go_simp; exact hK.out _ _ (by simp only [Act.put, List.setIfInBounds_toArray, List.set_cons_zero, List.set_cons_succ, List.nil_append, List.cons_append]; rfl) (Below.refl _ _)
                      simp only [Act.put, List.setIfInBounds_toArray, List.set_cons_zero, List.set_cons_succ, List.nil_append, List.cons_append]
                      refine inv_val (i := 21) (by kernel_rfl) rfl rfl (fun w1 hS hd K hK => ?_) ?_
                      · (try dsimp only at hS); go_simp; exact hK.out _ _ (by simp only [Act.put, List.setIfInBounds_toArray, List.set_cons_zero, List.set_cons_succ, List.nil_append, List.cons_append]; rfl) (Below.refl _ _)
                      simp only [Act.put, List.setIfInBounds_toArray, List.set_cons_zero, List.set_cons_succ, List.nil_append, List.cons_append]
                      refine inv_val (i := 22) (by kernel_rfl) rfl rfl (fun w1 hS hd K hK => ?_) ?_
                      · (try dsimp only at hS); go_simp; exact hK.out _ _ (by simp only [Act.put, List.setIfInBounds_toArray, List.set_cons_zero, List.set_cons_succ, List.nil_append, List.cons_append]; rfl) (Below.refl _ _)
                      simp only [Act.put, List.setIfInBounds_toArray, List.set_cons_zero, List.set_cons_succ, List.nil_append, List.cons_append]
                      refine inv_val (i := 23) (by kernel_rfl) rfl rfl (fun w1 hS hd K hK => ?_) ?_
                      · (try dsimp only at hS); go_simp; exact hK.out _ _ (by simp only [Act.put, List.setIfInBounds_toArray, List.set_cons_zero, List.set_cons_succ, List.nil_append, List.cons_append]; rfl) (Below.refl _ _)
                      simp only [Act.put, List.setIfInBounds_toArray, List.set_cons_zero, List.set_cons_succ, List.nil_append, List.cons_append]
                      refine inv_val (i := 24) (by kernel_rfl) rfl rfl (fun w1 hS hd K hK => ?_) ?_
                      · (try dsimp only at hS); go_simp; exact hK.out _ _ (by simp only [Act.put, List.setIfInBounds_toArray, List.set_cons_zero, List.set_cons_succ, List.nil_append, List.cons_append]; rfl) (Below.refl _ _)
                      simp only [Act.put, List.setIfInBounds_toArray, List.set_cons_zero, List.set_cons_succ, List.nil_append, List.cons_append]
                      refine inv_val (i := 25) (by kernel_rfl) rfl rfl (fun w1 hS hd K hK => ?_) ?_
                      · (try dsimp only at hS); go_simp; exact hK.out _ _ (by simp only [Act.put, List.setIfInBounds_toArray, List.set_cons_zero, List.set_cons_succ, List.nil_append, List.cons_append]; rfl) (Below.refl _ _)
                      simp only [Act.put, List.setIfInBounds_toArray, List.set_cons_zero, List.set_cons_succ, List.nil_append, List.cons_append]
                      refine inv_val (i := 26) (by kernel_rfl) rfl rfl (fun w1 hS hd K hK => ?_) ?_
                      · (try dsimp only at hS); go_simp; exact hK.out _ _ (by simp only [Act.put, List.setIfInBounds_toArray, List.set_cons_zero, List.set_cons_succ, List.nil_append, List.cons_append]; rfl) (Below.refl _ _)
                      simp only [Act.put, List.setIfInBounds_toArray, List.set_cons_zero, List.set_cons_succ, List.nil_append, List.cons_append]
                      refine inv_val (i := 27) (by kernel_rfl) rfl rfl (fun w1 hS hd K hK => ?_) ?_
                      · (try dsimp only at hS); go_simp; exact hK.out _ _ (by simp only [Act.put, List.setIfInBounds_toArray, List.set_cons_zero, List.set_cons_succ, List.nil_append, List.cons_append]; rfl) (Below.refl _ _)
                      simp only [Act.put, List.setIfInBounds_toArray, List.set_cons_zero, List.set_cons_succ, List.nil_append, List.cons_append]
                      refine inv_val (i := 28) (by kernel_rfl) rfl rfl (fun w1 hS hd K hK => ?_) ?_
                      · (try dsimp only at hS); go_simp; exact hK.out _ _ (by simp only [Act.put, List.setIfInBounds_toArray, List.set_cons_zero, List.set_cons_succ, List.nil_append, List.cons_append]; rfl) (Below.refl _ _)
                      simp only [Act.put, List.setIfInBounds_toArray, List.set_cons_zero, List.set_cons_succ, List.nil_append, List.cons_append]
                      refine inv_val (i := 29) (by kernel_rfl) rfl rfl (fun w1 hS hd K hK => ?_) ?_
                      · (try dsimp only at hS); go_simp; exact hK.out _ _ (by simp only [Act.put, List.setIfInBounds_toArray, List.set_cons_zero, List.set_cons_succ, List.nil_append, List.cons_append]; rfl) (Below.refl _ _)
                      simp only [Act.put, List.setIfInBounds_toArray, List.set_cons_zero, List.set_cons_succ, List.nil_append, List.cons_append]
                      refine inv_val (i := 30) (by kernel_rfl) rfl rfl (fun w1 hS hd K hK => ?_) ?_
                      · (try dsimp only at hS); go_simp; exact hK.out _ _ (by simp only [Act.put, List.setIfInBounds_toArray, List.set_cons_zero, List.set_cons_succ, List.nil_append, List.cons_append]; rfl) (Below.refl _ _)
                      simp only [Act.put, List.setIfInBounds_toArray, List.set_cons_zero, List.set_cons_succ, List.nil_append, List.cons_append]
                      refine inv_val (i := 31) (by kernel_rfl) rfl rfl (fun w1 hS hd K hK => ?_) ?_
                      · (try dsimp only at hS); go_simp; exact hK.out _ _ (by simp only [Act.put, List.setIfInBounds_toArray, List.set_cons_zero, List.set_cons_succ, List.nil_append, List.cons_append]; rfl) (Below.refl _ _)
                      simp only [Act.put, List.setIfInBounds_toArray, List.set_cons_zero, List.set_cons_succ, List.nil_append, List.cons_append]
                      refine inv_val (i := 32) (by kernel_rfl) rfl rfl (fun w1 hS hd K hK => ?_) ?_
                      · rw [if_neg (by simp [Region.wanted, yielded])]; exact hK.out _ _ (by rfl) (Below.refl _ _)
                      simp only [Act.put, List.setIfInBounds_toArray, List.set_cons_zero, List.set_cons_succ, List.nil_append, List.cons_append]
                      refine inv_val (i := 33) (by kernel_rfl) rfl rfl (fun w1 hS hd K hK => ?_) ?_
                      · (try dsimp only at hS); go_simp; exact hK.out _ _ (by simp only [Act.put, List.setIfInBounds_toArray, List.set_cons_zero, List.set_cons_succ, List.nil_append, List.cons_append]; rfl) (Below.refl _ _)
                      simp only [Act.put, List.setIfInBounds_toArray, List.set_cons_zero, List.set_cons_succ, List.nil_append, List.cons_append]
                      refine inv_val (i := 34) (by kernel_rfl) rfl rfl (fun w1 hS hd K hK => ?_) ?_
                      · (try dsimp only at hS); go_simp; exact hK.out _ _ (by simp only [Act.put, List.setIfInBounds_toArray, List.set_cons_zero, List.set_cons_succ, List.nil_append, List.cons_append]; rfl) (Below.refl _ _)
                      simp only [Act.put, List.setIfInBounds_toArray, List.set_cons_zero, List.set_cons_succ, List.nil_append, List.cons_append]
                      refine inv_val (i := 35) (by kernel_rfl) rfl rfl (fun w1 hS hd K hK => ?_) ?_
                      · (try dsimp only at hS); go_simp; exact hK.out _ _ (by simp only [Act.put, List.setIfInBounds_toArray, List.set_cons_zero, List.set_cons_succ, List.nil_append, List.cons_append]; rfl) (Below.refl _ _)
                      simp only [Act.put, List.setIfInBounds_toArray, List.set_cons_zero, List.set_cons_succ, List.nil_append, List.cons_append]
                      refine inv_val (i := 36) (by kernel_rfl) rfl rfl (fun w1 hS hd K hK => ?_) ?_
                      · (try dsimp only at hS); go_simp; exact hK.out _ _ (by simp only [Act.put, List.setIfInBounds_toArray, List.set_cons_zero, List.set_cons_succ, List.nil_append, List.cons_append]; rfl) (Below.refl _ _)
                      simp only [Act.put, List.setIfInBounds_toArray, List.set_cons_zero, List.set_cons_succ, List.nil_append, List.cons_append]
                      refine inv_val (i := 37) (by kernel_rfl) rfl rfl (fun w1 hS hd K hK => ?_) ?_
                      · (try dsimp only at hS); go_simp; exact hK.out _ _ (by simp only [Act.put, List.setIfInBounds_toArray, List.set_cons_zero, List.set_cons_succ, List.nil_append, List.cons_append]; rfl) (Below.refl _ _)
                      simp only [Act.put, List.setIfInBounds_toArray, List.set_cons_zero, List.set_cons_succ, List.nil_append, List.cons_append]
                      refine inv_val (i := 38) (by kernel_rfl) rfl rfl (fun w1 hS hd K hK => ?_) ?_
                      · (try dsimp only at hS); go_simp; exact hK.out _ _ (by simp only [Act.put, List.setIfInBounds_toArray, List.set_cons_zero, List.set_cons_succ, List.nil_append, List.cons_append]; rfl) (Below.refl _ _)
                      simp only [Act.put, List.setIfInBounds_toArray, List.set_cons_zero, List.set_cons_succ, List.nil_append, List.cons_append]
                      refine inv_val (i := 39) (by kernel_rfl) rfl rfl (fun w1 hS hd K hK => ?_) ?_
                      · (try dsimp only at hS); go_simp; exact hK.out _ _ (by simp only [Act.put, List.setIfInBounds_toArray, List.set_cons_zero, List.set_cons_succ, List.nil_append, List.cons_append]; rfl) (Below.refl _ _)
                      simp only [Act.put, List.setIfInBounds_toArray, List.set_cons_zero, List.set_cons_succ, List.nil_append, List.cons_append]
                      refine inv_val (i := 40) (by kernel_rfl) rfl rfl (fun w1 hS hd K hK => ?_) ?_
                      · (try dsimp only at hS); go_simp; exact hK.out _ _ (by simp only [Act.put, List.setIfInBounds_toArray, List.set_cons_zero, List.set_cons_succ, List.nil_append, List.cons_append]; rfl) (Below.refl _ _)
                      simp only [Act.put, List.setIfInBounds_toArray, List.set_cons_zero, List.set_cons_succ, List.nil_append, List.cons_append]
                      refine inv_val (i := 41) (by kernel_rfl) rfl rfl (fun w1 hS hd K hK => ?_) ?_
                      · rw [if_neg (by simp [Region.wanted, yielded])]; exact hK.out _ _ (by rfl) (Below.refl _ _)
                      simp only [Act.put, List.setIfInBounds_toArray, List.set_cons_zero, List.set_cons_succ, List.nil_append, List.cons_append]
                      refine inv_val (i := 42) (by kernel_rfl) rfl rfl (fun w1 hS hd K hK => ?_) ?_
                      · rw [if_neg (by simp [Region.wanted, yielded])]; exact hK.out _ _ (by rfl) (Below.refl _ _)
                      simp only [Act.put, List.setIfInBounds_toArray, List.set_cons_zero, List.set_cons_succ, List.nil_append, List.cons_append]
                      refine inv_val (i := 43) (by kernel_rfl) rfl rfl (fun w1 hS hd K hK => ?_) ?_
                      · rw [if_neg (by simp [Region.wanted, yielded])]; exact hK.out _ _ (by rfl) (Below.refl _ _)
                      simp only [Act.put, List.setIfInBounds_toArray, List.set_cons_zero, List.set_cons_succ, List.nil_append, List.cons_append]
                      refine inv_val (i := 44) (by kernel_rfl) rfl rfl (fun w1 hS hd K hK => ?_) ?_
                      · rw [if_neg (by simp [Region.wanted, yielded])]; exact hK.out _ _ (by rfl) (Below.refl _ _)
                      simp only [Act.put, List.setIfInBounds_toArray, List.set_cons_zero, List.set_cons_succ, List.nil_append, List.cons_append]
                      refine inv_val (i := 45) (by kernel_rfl) rfl rfl (fun w1 hS hd K hK => ?_) ?_
                      · rw [if_neg (by simp [Region.wanted, yielded])]; exact hK.out _ _ (by rfl) (Below.refl _ _)
                      simp only [Act.put, List.setIfInBounds_toArray, List.set_cons_zero, List.set_cons_succ, List.nil_append, List.cons_append]
                      refine inv_val (i := 46) (by kernel_rfl) rfl rfl (fun w1 hS hd K hK => ?_) ?_
                      · rw [if_neg (by simp [Region.wanted, yielded])]; exact hK.out _ _ (by rfl) (Below.refl _ _)
                      simp only [Act.put, List.setIfInBounds_toArray, List.set_cons_zero, List.set_cons_succ, List.nil_append, List.cons_append]
                      refine inv_val (i := 47) (by kernel_rfl) rfl rfl (fun w1 hS hd K hK => ?_) ?_
                      · rw [if_neg (by simp [Region.wanted, yielded])]; exact hK.out _ _ (by rfl) (Below.refl _ _)
                      simp only [Act.put, List.setIfInBounds_toArray, List.set_cons_zero, List.set_cons_succ, List.nil_append, List.cons_append]
                      refine inv_val (i := 48) (by kernel_rfl) rfl rfl (fun w1 hS hd K hK => ?_) ?_
                      · rw [if_neg (by simp [Region.wanted, yielded])]; exact hK.out _ _ (by rfl) (Below.refl _ _)
                      simp only [Act.put, List.setIfInBounds_toArray, List.set_cons_zero, List.set_cons_succ, List.nil_append, List.cons_append]
                      refine inv_val (i := 49) (by kernel_rfl) rfl rfl (fun w1 hS hd K hK => ?_) ?_
                      · (try dsimp only at hS); go_simp; exact hK.out _ _ (by simp only [Act.put, List.setIfInBounds_toArray, List.set_cons_zero, List.set_cons_succ, List.nil_append, List.cons_append]; rfl) (Below.refl _ _)
                      simp only [Act.put, List.setIfInBounds_toArray, List.set_cons_zero, List.set_cons_succ, List.nil_append, List.cons_append]
                      refine inv_val (i := 50) (by kernel_rfl) rfl rfl (fun w1 hS hd K hK => ?_) ?_
                      · (try dsimp only at hS); go_simp; exact hK.out _ _ (by simp only [Act.put, List.setIfInBounds_toArray, List.set_cons_zero, List.set_cons_succ, List.nil_append, List.cons_append]; rfl) (Below.refl _ _)
                      simp only [Act.put, List.setIfInBounds_toArray, List.set_cons_zero, List.set_cons_succ, List.nil_append, List.cons_append]
                      refine inv_val (i := 51) (by kernel_rfl) rfl rfl (fun w1 hS hd K hK => ?_) ?_
                      · (try dsimp only at hS); go_simp; exact hK.out _ _ (by simp only [Act.put, List.setIfInBounds_toArray, List.set_cons_zero, List.set_cons_succ, List.nil_append, List.cons_append]; rfl) (Below.refl _ _)
                      simp only [Act.put, List.setIfInBounds_toArray, List.set_cons_zero, List.set_cons_succ, List.nil_append, List.cons_append]
                      refine inv_done (by kernel_rfl) (fun w10 hS hd => ?_)
                      have HF10 := Lib.hid (chain HB.out hS.1.1)
                      clear hS hd c0 c1 c2 c3 d0 d1 d2 d3 p0 p1 hz9
                      go_wp2
                      go_ret
                      exact ⟨rfl, HF10.out⟩
                    · have hwas := HR5.out rfl
                      subst hwas
                      go_wp2_with fail
                      refine wp_region_inv (R := Blw) (S := (fun w' => (Below wr.heap.size wr w' ∧ RBox w' b1 xa xc xfa xfc ra ∧ RBox w' b2 ya yc yfa yfc rb) ∧ w'.cell? ⟨b1, 0, none⟩ = some (.int .i64 ra.now) ∧ w'.cell? ⟨b1, 1, none⟩ = some (.string ra.name) ∧ w'.cell? ⟨b1, 2, none⟩ = some (.slice xa ra.l.length xc) ∧ w'.cell? ⟨b1, 3, none⟩ = some (.slice xfa ra.fl.length xfc) ∧ w'.cell? ⟨b2, 0, none⟩ = some (.int .i64 rb.now) ∧ w'.cell? ⟨b2, 1, none⟩ = some (.string rb.name) ∧ w'.cell? ⟨b2, 2, none⟩ = some (.slice ya rb.l.length yc) ∧ w'.cell? ⟨b2, 3, none⟩ = some (.slice yfa rb.fl.length yfc) ∧ w'.cell? ⟨w.heap.size, 1, none⟩ = some (.slice (some ⟨b, o, none⟩) l.length pc) ∧ w'.cell? ⟨b, o + ti * 4 + 1, none⟩ = some (.int .i64 ev))) 52 (Spec.val ?_ :: Spec.val ?_ :: Spec.val ?_ :: Spec.val ?_ :: Spec.val ?_ :: Spec.val ?_ :: Spec.val ?_ :: Spec.val ?_ :: Spec.val ?_ :: Spec.val ?_ :: Spec.val ?_ :: Spec.val ?_ :: Spec.val ?_ :: Spec.val ?_ :: Spec.val ?_ :: Spec.val ?_ :: Spec.val ?_ :: Spec.val ?_ :: Spec.val ?_ :: Spec.val ?_ :: Spec.val ?_ :: Spec.val ?_ :: Spec.val ?_ :: Spec.val ?_ :: Spec.val ?_ :: Spec.val ?_ :: Spec.val ?_ :: Spec.val ?_ :: Spec.val ?_ :: Spec.val ?_ :: Spec.val ?_ :: Spec.val ?_ :: Spec.val ?_ :: Spec.val ?_ :: Spec.val ?_ :: Spec.val ?_ :: Spec.val ?_ :: Spec.val ?_ :: Spec.val ?_ :: Spec.val ?_ :: Spec.val ?_ :: Spec.val ?_ :: Spec.val ?_ :: Spec.val ?_ :: Spec.val ?_ :: Spec.val ?_ :: Spec.val ?_ :: Spec.val ?_ :: Spec.val ?_ :: Spec.val ?_ :: Spec.val ?_ :: Spec.val ?_ :: []) (by kernel_rfl) (by kernel_rfl) rfl (fun w1 w2 h hb => ⟨⟨chain h.1.1 hb, h.1.2.1.step hb, h.1.2.2.step hb⟩, cell_step h.2.1 hb, cell_step h.2.2.1 hb, cell_step h.2.2.2.1 hb, cell_step h.2.2.2.2.1 hb, cell_step h.2.2.2.2.2.1 hb, cell_step h.2.2.2.2.2.2.1 hb, cell_step h.2.2.2.2.2.2.2.1 hb, cell_step h.2.2.2.2.2.2.2.2.1 hb, cell_step h.2.2.2.2.2.2.2.2.2.1 hb, cell_step h.2.2.2.2.2.2.2.2.2.2 hb⟩) (⟨⟨HB9.out.drew, HX9.out.step (Below.refl _ _).drew, HY9.out.step (Below.refl _ _).drew⟩, c0, c1, c2, c3, d0, d1, d2, d3, p1, hz9⟩) ?hm7
                      case' hm7 => skip
                      refine inv_val (i := 0) (by kernel_rfl) rfl rfl (fun w1 hS hd K hK => ?_) ?_
                      · (try dsimp only at hS); go_simp; refine (alive_any _).mono ?_; rintro e w2 ⟨rfl, hb⟩; exact hK.out _ _ (by simp only [Act.put, List.setIfInBounds_toArray, List.set_cons_zero, List.set_cons_succ, List.nil_append, List.cons_append]; rfl) hb
                      simp only [Act.put, List.setIfInBounds_toArray, List.set_cons_zero, List.set_cons_succ, List.nil_append, List.cons_append]
                      refine inv_val (i := 1) (by kernel_rfl) rfl rfl (fun w1 hS hd K hK => ?_) ?_
                      · (try dsimp only at hS); go_simp; exact hK.out _ _ (by simp only [Act.put, List.setIfInBounds_toArray, List.set_cons_zero, List.set_cons_succ, List.nil_append, List.cons_append]; rfl) (Below.refl _ _)
                      simp only [Act.put, List.setIfInBounds_toArray, List.set_cons_zero, List.set_cons_succ, List.nil_append, List.cons_append]
                      refine inv_val (i := 2) (by kernel_rfl) rfl rfl (fun w1 hS hd K hK => ?_) ?_
                      · (try dsimp only at hS); go_simp; exact hK.out _ _ (by simp only [Act.put, List.setIfInBounds_toArray, List.set_cons_zero, List.set_cons_succ, List.nil_append, List.cons_append]; rfl) (Below.refl _ _)
                      simp only [Act.put, List.setIfInBounds_toArray, List.set_cons_zero, List.set_cons_succ, List.nil_append, List.cons_append]
                      refine inv_val (i := 3) (by kernel_rfl) rfl rfl (fun w1 hS hd K hK => ?_) ?_
                      · (try dsimp only at hS); go_simp; exact hK.out _ _ (by simp only [Act.put, List.setIfInBounds_toArray, List.set_cons_zero, List.set_cons_succ, List.nil_append, List.cons_append]; rfl) (Below.refl _ _)
                      simp only [Act.put, List.setIfInBounds_toArray, List.set_cons_zero, List.set_cons_succ, List.nil_append, List.cons_append]
                      refine inv_val (i := 4) (by kernel_rfl) rfl rfl (fun w1 hS hd K hK => ?_) ?_
                      · (try dsimp only at hS); go_simp; refine (from_any _ ra ti _ hS.1.2.1.lies NA.out KT.out).mono ?_; rintro e w2 ⟨rfl, hb⟩; rw [← HFA.out]; exact hK.out _ _ (by simp only [Act.put, List.setIfInBounds_toArray, List.set_cons_zero, List.set_cons_succ, List.nil_append, List.cons_append]; rfl) hb
                      simp only [Act.put, List.setIfInBounds_toArray, List.set_cons_zero, List.set_cons_succ, List.nil_append, List.cons_append]
                      refine inv_val (i := 5) (by kernel_rfl) rfl rfl (fun w1 hS hd K hK => ?_) ?_
                      · (try dsimp only at hS); go_simp; exact hK.out _ _ (by simp only [Act.put, List.setIfInBounds_toArray, List.set_cons_zero, List.set_cons_succ, List.nil_append, List.cons_append]; rfl) (Below.refl _ _)
                      simp only [Act.put, List.setIfInBounds_toArray, List.set_cons_zero, List.set_cons_succ, List.nil_append, List.cons_append]
                      refine inv_val (i := 6) (by kernel_rfl) rfl rfl (fun w1 hS hd K hK => ?_) ?_
                      · (try dsimp only at hS); go_simp; exact hK.out _ _ (by simp only [Act.put, List.setIfInBounds_toArray, List.set_cons_zero, List.set_cons_succ, List.nil_append, List.cons_append]; rfl) (Below.refl _ _)
                      simp only [Act.put, List.setIfInBounds_toArray, List.set_cons_zero, List.set_cons_succ, List.nil_append, List.cons_append]
                      refine inv_val (i := 7) (by kernel_rfl) rfl rfl (fun w1 hS hd K hK => ?_) ?_
                      · (try dsimp only at hS); go_simp; refine (from_any _ rb ti _ hS.1.2.2.lies NB.out KT.out).mono ?_; rintro e w2 ⟨rfl, hb⟩; rw [← HFB.out]; exact hK.out _ _ (by simp only [Act.put, List.setIfInBounds_toArray, List.set_cons_zero, List.set_cons_succ, List.nil_append, List.cons_append]; rfl) hb
                      simp only [Act.put, List.setIfInBounds_toArray, List.set_cons_zero, List.set_cons_succ, List.nil_append, List.cons_append]
                      refine inv_val (i := 8) (by kernel_rfl) rfl rfl (fun w1 hS hd K hK => ?_) ?_
                      · (try dsimp only at hS); go_simp; exact hK.out _ _ (by simp only [Act.put, List.setIfInBounds_toArray, List.set_cons_zero, List.set_cons_succ, List.nil_append, List.cons_append]; rfl) (Below.refl _ _)
                      simp only [Act.put, List.setIfInBounds_toArray, List.set_cons_zero, List.set_cons_succ, List.nil_append, List.cons_append]
                      refine inv_val (i := 9) (by kernel_rfl) rfl rfl (fun w1 hS hd K hK => ?_) ?_
                      · (try dsimp only at hS); go_simp; exact hK.out _ _ (by simp only [Act.put, List.setIfInBounds_toArray, List.set_cons_zero, List.set_cons_succ, List.nil_append, List.cons_append]; rfl) (Below.refl _ _)
                      simp only [Act.put, List.setIfInBounds_toArray, List.set_cons_zero, List.set_cons_succ, List.nil_append, List.cons_append]
                      refine inv_val (i := 10) (by kernel_rfl) rfl rfl (fun w1 hS hd K hK => ?_) ?_
                      · (try dsimp only at hS); go_simp; exact hK.out _ _ (by simp only [Act.put, List.setIfInBounds_toArray, List.set_cons_zero, List.set_cons_succ, List.nil_append, List.cons_append]; rfl) (Below.refl _ _)
                      simp only [Act.put, List.setIfInBounds_toArray, List.set_cons_zero, List.set_cons_succ, List.nil_append, List.cons_append]
                      refine inv_val (i := 11) (by kernel_rfl) rfl rfl (fun w1 hS hd K hK => ?_) ?_
                      · (try dsimp only at hS); go_simp; exact hK.out _ _ (by simp only [Act.put, List.setIfInBounds_toArray, List.set_cons_zero, List.set_cons_succ, List.nil_append, List.cons_append]; rfl) (Below.refl _ _)
                      simp only [Act.put, List.setIfInBounds_toArray, List.set_cons_zero, List.set_cons_succ, List.nil_append, List.cons_append]
                      refine inv_val (i := 12) (by kernel_rfl) rfl rfl (fun w1 hS hd K hK => ?_) ?_
                      · (try dsimp only at hS); go_simp; exact hK.out _ _ (by simp only [Act.put, List.setIfInBounds_toArray, List.set_cons_zero, List.set_cons_succ, List.nil_append, List.cons_append]; rfl) (Below.refl _ _)
                      simp only [Act.put, List.setIfInBounds_toArray, List.set_cons_zero, List.set_cons_succ, List.nil_append, List.cons_append]
                      refine inv_val (i := 13) (by kernel_rfl) rfl rfl (fun w1 hS hd K hK => ?_) ?_
                      · (try dsimp only at hS); go_simp; refine (from_any _ ra ti _ hS.1.2.1.lies NA.out KT.out).mono ?_; rintro e w2 ⟨rfl, hb⟩; rw [← HFA.out]; exact hK.out _ _ (by simp only [Act.put, List.setIfInBounds_toArray, List.set_cons_zero, List.set_cons_succ, List.nil_append, List.cons_append]; rfl) hb
                      simp only [Act.put, List.setIfInBounds_toArray, List.set_cons_zero, List.set_cons_succ, List.nil_append, List.cons_append]
                      refine inv_val (i := 14) (by kernel_rfl) rfl rfl (fun w1 hS hd K hK => ?_) ?_
                      · (try dsimp only at hS); go_simp; exact hK.out _ _ (by simp only [Act.put, List.setIfInBounds_toArray, List.set_cons_zero, List.set_cons_succ, List.nil_append, List.cons_append]; rfl) (Below.refl _ _)
                      simp only [Act.put, List.setIfInBounds_toArray, List.set_cons_zero, List.set_cons_succ, List.nil_append, List.cons_append]
                      refine inv_val (i := 15) (by kernel_rfl) rfl rfl (fun w1 hS hd K hK => ?_) ?_
                      · (try dsimp only at hS); go_simp; exact hK.out _ _ (by simp only [Act.put, List.setIfInBounds_toArray, List.set_cons_zero, List.set_cons_succ, List.nil_append, List.cons_append]; rfl) (Below.refl _ _)
                      simp only [Act.put, List.setIfInBounds_toArray, List.set_cons_zero, List.set_cons_succ, List.nil_append, List.cons_append]
                      refine inv_val (i := 16) (by kernel_rfl) rfl rfl (fun w1 hS hd K hK => ?_) ?_
                      · (try dsimp only at hS); go_simp; exact hK.out _ _ (by simp only [Act.put, List.setIfInBounds_toArray, List.set_cons_zero, List.set_cons_succ, List.nil_append, List.cons_append]; rfl) (Below.refl _ _)
                      simp only [Act.put, List.setIfInBounds_toArray, List.set_cons_zero, List.set_cons_succ, List.nil_append, List.cons_append]
                      refine inv_val (i := 17) (by kernel_rfl) rfl rfl (fun w1 hS hd K hK => ?_) ?_
                      · (try dsimp only at hS); go_simp; exact hK.out _ _ (by simp only [Act.put, List.setIfInBounds_toArray, List.set_cons_zero, List.set_cons_succ, List.nil_append, List.cons_append]; rfl) (Below.refl _ _)
                      simp only [Act.put, List.setIfInBounds_toArray, List.set_cons_zero, List.set_cons_succ, List.nil_append, List.cons_append]
                      refine inv_val (i := 18) (by kernel_rfl) rfl rfl (fun w1 hS hd K hK => ?_) ?_
                      · (try dsimp only at hS); go_simp; exact hK.out _ _ (by simp only [Act.put, List.setIfInBounds_toArray, List.set_cons_zero, List.set_cons_succ, List.nil_append, List.cons_append]; rfl) (Below.refl _ _)
                      simp only [Act.put, List.setIfInBounds_toArray, List.set_cons_zero, List.set_cons_succ, List.nil_append, List.cons_append]
                      refine inv_val (i := 19) (by kernel_rfl) rfl rfl (fun w1 hS hd K hK => ?_) ?_
                      · (try dsimp only at hS); go_simp; exact hK.out _ _ (by simp only [Act.put, List.setIfInBounds_toArray, List.set_cons_zero, List.set_cons_succ, List.nil_append, List.cons_append]; rfl) (Below.refl _ _)
                      simp only [Act.put, List.setIfInBounds_toArray, List.set_cons_zero, List.set_cons_succ, List.nil_append, List.cons_append]
                      refine inv_val (i := 20) (by kernel_rfl) rfl rfl (fun w1 hS hd K hK => ?_) ?_
                      · (try dsimp only at hS); go_simp; exact hK.out _ _ (by simp only [Act.put, List.setIfInBounds_toArray, List.set_cons_zero, List.set_cons_succ, List.nil_append, List.cons_append]; rfl) (Below.refl _ _)
                      simp only [Act.put, List.setIfInBounds_toArray, List.set_cons_zero, List.set_cons_succ, List.nil_append, List.cons_append]
                      refine inv_val (i := 21) (by kernel_rfl) rfl rfl (fun w1 hS hd K hK => ?_) ?_
                      · (try dsimp only at hS); go_simp; exact hK.out _ _ (by simp only [Act.put, List.setIfInBounds_toArray, List.set_cons_zero, List.set_cons_succ, List.nil_append, List.cons_append]; rfl) (Below.refl _ _)
                      simp only [Act.put, List.setIfInBounds_toArray, List.set_cons_zero, List.set_cons_succ, List.nil_append, List.cons_append]
                      refine inv_val (i := 22) (by kernel_rfl) rfl rfl (fun w1 hS hd K hK => ?_) ?_
                      · (try dsimp only at hS); go_simp; exact hK.out _ _ (by simp only [Act.put, List.setIfInBounds_toArray, List.set_cons_zero, List.set_cons_succ, List.nil_append, List.cons_append]; rfl) (Below.refl _ _)
                      simp only [Act.put, List.setIfInBounds_toArray, List.set_cons_zero, List.set_cons_succ, List.nil_append, List.cons_append]
                      refine inv_val (i := 23) (by kernel_rfl) rfl rfl (fun w1 hS hd K hK => ?_) ?_
                      · (try dsimp only at hS); go_simp; exact hK.out _ _ (by simp only [Act.put, List.setIfInBounds_toArray, List.set_cons_zero, List.set_cons_succ, List.nil_append, List.cons_append]; rfl) (Below.refl _ _)
                      simp only [Act.put, List.setIfInBounds_toArray, List.set_cons_zero, List.set_cons_succ, List.nil_append, List.cons_append]
                      refine inv_val (i := 24) (by kernel_rfl) rfl rfl (fun w1 hS hd K hK => ?_) ?_
                      · (try dsimp only at hS); go_simp; exact hK.out _ _ (by simp only [Act.put, List.setIfInBounds_toArray, List.set_cons_zero, List.set_cons_succ, List.nil_append, List.cons_append]; rfl) (Below.refl _ _)
                      simp only [Act.put, List.setIfInBounds_toArray, List.set_cons_zero, List.set_cons_succ, List.nil_append, List.cons_append]
                      refine inv_val (i := 25) (by kernel_rfl) rfl rfl (fun w1 hS hd K hK => ?_) ?_
                      · (try dsimp only at hS); go_simp; exact hK.out _ _ (by simp only [Act.put, List.setIfInBounds_toArray, List.set_cons_zero, List.set_cons_succ, List.nil_append, List.cons_append]; rfl) (Below.refl _ _)
                      simp only [Act.put, List.setIfInBounds_toArray, List.set_cons_zero, List.set_cons_succ, List.nil_append, List.cons_append]
                      refine inv_val (i := 26) (by kernel_rfl) rfl rfl (fun w1 hS hd K hK => ?_) ?_
                      · (try dsimp only at hS); go_simp; exact hK.out _ _ (by simp only [Act.put, List.setIfInBounds_toArray, List.set_cons_zero, List.set_cons_succ, List.nil_append, List.cons_append]; rfl) (Below.refl _ _)
                      simp only [Act.put, List.setIfInBounds_toArray, List.set_cons_zero, List.set_cons_succ, List.nil_append, List.cons_append]
                      refine inv_val (i := 27) (by kernel_rfl) rfl rfl (fun w1 hS hd K hK => ?_) ?_
                      · (try dsimp only at hS); go_simp; exact hK.out _ _ (by simp only [Act.put, List.setIfInBounds_toArray, List.set_cons_zero, List.set_cons_succ, List.nil_append, List.cons_append]; rfl) (Below.refl _ _)
                      simp only [Act.put, List.setIfInBounds_toArray, List.set_cons_zero, List.set_cons_succ, List.nil_append, List.cons_append]
                      refine inv_val (i := 28) (by kernel_rfl) rfl rfl (fun w1 hS hd K hK => ?_) ?_
                      · (try dsimp only at hS); go_simp; exact hK.out _ _ (by simp only [Act.put, List.setIfInBounds_toArray, List.set_cons_zero, List.set_cons_succ, List.nil_append, List.cons_append]; rfl) (Below.refl _ _)
                      simp only [Act.put, List.setIfInBounds_toArray, List.set_cons_zero, List.set_cons_succ, List.nil_append, List.cons_append]
                      refine inv_val (i := 29) (by kernel_rfl) rfl rfl (fun w1 hS hd K hK => ?_) ?_
                      · (try dsimp only at hS); go_simp; exact hK.out _ _ (by simp only [Act.put, List.setIfInBounds_toArray, List.set_cons_zero, List.set_cons_succ, List.nil_append, List.cons_append]; rfl) (Below.refl _ _)
                      simp only [Act.put, List.setIfInBounds_toArray, List.set_cons_zero, List.set_cons_succ, List.nil_append, List.cons_append]
                      refine inv_val (i := 30) (by kernel_rfl) rfl rfl (fun w1 hS hd K hK => ?_) ?_
                      · (try dsimp only at hS); go_simp; exact hK.out _ _ (by simp only [Act.put, List.setIfInBounds_toArray, List.set_cons_zero, List.set_cons_succ, List.nil_append, List.cons_append]; rfl) (Below.refl _ _)
                      simp only [Act.put, List.setIfInBounds_toArray, List.set_cons_zero, List.set_cons_succ, List.nil_append, List.cons_append]
                      refine inv_val (i := 31) (by kernel_rfl) rfl rfl (fun w1 hS hd K hK => ?_) ?_
                      · (try dsimp only at hS); go_simp; exact hK.out _ _ (by simp only [Act.put, List.setIfInBounds_toArray, List.set_cons_zero, List.set_cons_succ, List.nil_append, List.cons_append]; rfl) (Below.refl _ _)
                      simp only [Act.put, List.setIfInBounds_toArray, List.set_cons_zero, List.set_cons_succ, List.nil_append, List.cons_append]
                      refine inv_val (i := 32) (by kernel_rfl) rfl rfl (fun w1 hS hd K hK => ?_) ?_
                      · (try dsimp only at hS); go_simp; exact hK.out _ _ (by simp only [Act.put, List.setIfInBounds_toArray, List.set_cons_zero, List.set_cons_succ, List.nil_append, List.cons_append]; rfl) (Below.refl _ _)
                      simp only [Act.put, List.setIfInBounds_toArray, List.set_cons_zero, List.set_cons_succ, List.nil_append, List.cons_append]
                      refine inv_val (i := 33) (by kernel_rfl) rfl rfl (fun w1 hS hd K hK => ?_) ?_
                      · (try dsimp only at hS); go_simp; exact hK.out _ _ (by simp only [Act.put, List.setIfInBounds_toArray, List.set_cons_zero, List.set_cons_succ, List.nil_append, List.cons_append]; rfl) (Below.refl _ _)
                      simp only [Act.put, List.setIfInBounds_toArray, List.set_cons_zero, List.set_cons_succ, List.nil_append, List.cons_append]
                      refine inv_val (i := 34) (by kernel_rfl) rfl rfl (fun w1 hS hd K hK => ?_) ?_
                      · (try dsimp only at hS); go_simp; exact hK.out _ _ (by simp only [Act.put, List.setIfInBounds_toArray, List.set_cons_zero, List.set_cons_succ, List.nil_append, List.cons_append]; rfl) (Below.refl _ _)
                      simp only [Act.put, List.setIfInBounds_toArray, List.set_cons_zero, List.set_cons_succ, List.nil_append, List.cons_append]
                      refine inv_val (i := 35) (by kernel_rfl) rfl rfl (fun w1 hS hd K hK => ?_) ?_
                      · (try dsimp only at hS); go_simp; exact hK.out _ _ (by simp only [Act.put, List.setIfInBounds_toArray, List.set_cons_zero, List.set_cons_succ, List.nil_append, List.cons_append]; rfl) (Below.refl _ _)
                      simp only [Act.put, List.setIfInBounds_toArray, List.set_cons_zero, List.set_cons_succ, List.nil_append, List.cons_append]
                      refine inv_val (i := 36) (by kernel_rfl) rfl rfl (fun w1 hS hd K hK => ?_) ?_
                      · (try dsimp only at hS); go_simp; exact hK.out _ _ (by simp only [Act.put, List.setIfInBounds_toArray, List.set_cons_zero, List.set_cons_succ, List.nil_append, List.cons_append]; rfl) (Below.refl _ _)
                      simp only [Act.put, List.setIfInBounds_toArray, List.set_cons_zero, List.set_cons_succ, List.nil_append, List.cons_append]
                      refine inv_val (i := 37) (by kernel_rfl) rfl rfl (fun w1 hS hd K hK => ?_) ?_
                      · (try dsimp only at hS); go_simp; exact hK.out _ _ (by simp only [Act.put, List.setIfInBounds_toArray, List.set_cons_zero, List.set_cons_succ, List.nil_append, List.cons_append]; rfl) (Below.refl _ _)
                      simp only [Act.put, List.setIfInBounds_toArray, List.set_cons_zero, List.set_cons_succ, List.nil_append, List.cons_append]
                      refine inv_val (i := 38) (by kernel_rfl) rfl rfl (fun w1 hS hd K hK => ?_) ?_
                      · (try dsimp only at hS); go_simp; exact hK.out _ _ (by simp only [Act.put, List.setIfInBounds_toArray, List.set_cons_zero, List.set_cons_succ, List.nil_append, List.cons_append]; rfl) (Below.refl _ _)
                      simp only [Act.put, List.setIfInBounds_toArray, List.set_cons_zero, List.set_cons_succ, List.nil_append, List.cons_append]
                      refine inv_val (i := 39) (by kernel_rfl) rfl rfl (fun w1 hS hd K hK => ?_) ?_
                      · (try dsimp only at hS); go_simp; exact hK.out _ _ (by simp only [Act.put, List.setIfInBounds_toArray, List.set_cons_zero, List.set_cons_succ, List.nil_append, List.cons_append]; rfl) (Below.refl _ _)
                      simp only [Act.put, List.setIfInBounds_toArray, List.set_cons_zero, List.set_cons_succ, List.nil_append, List.cons_append]
                      refine inv_val (i := 40) (by kernel_rfl) rfl rfl (fun w1 hS hd K hK => ?_) ?_
                      · (try dsimp only at hS); go_simp; exact hK.out _ _ (by simp only [Act.put, List.setIfInBounds_toArray, List.set_cons_zero, List.set_cons_succ, List.nil_append, List.cons_append]; rfl) (Below.refl _ _)
                      simp only [Act.put, List.setIfInBounds_toArray, List.set_cons_zero, List.set_cons_succ, List.nil_append, List.cons_append]
                      refine inv_val (i := 41) (by kernel_rfl) rfl rfl (fun w1 hS hd K hK => ?_) ?_
                      · rw [if_neg (by simp [Region.wanted, yielded])]; exact hK.out _ _ (by rfl) (Below.refl _ _)
                      simp only [Act.put, List.setIfInBounds_toArray, List.set_cons_zero, List.set_cons_succ, List.nil_append, List.cons_append]
                      refine inv_val (i := 42) (by kernel_rfl) rfl rfl (fun w1 hS hd K hK => ?_) ?_
                      · rw [if_neg (by simp [Region.wanted, yielded])]; exact hK.out _ _ (by rfl) (Below.refl _ _)
                      simp only [Act.put, List.setIfInBounds_toArray, List.set_cons_zero, List.set_cons_succ, List.nil_append, List.cons_append]
                      refine inv_val (i := 43) (by kernel_rfl) rfl rfl (fun w1 hS hd K hK => ?_) ?_
                      · rw [if_neg (by simp [Region.wanted, yielded])]; exact hK.out _ _ (by rfl) (Below.refl _ _)
                      simp only [Act.put, List.setIfInBounds_toArray, List.set_cons_zero, List.set_cons_succ, List.nil_append, List.cons_append]
                      refine inv_val (i := 44) (by kernel_rfl) rfl rfl (fun w1 hS hd K hK => ?_) ?_
                      · rw [if_neg (by simp [Region.wanted, yielded])]; exact hK.out _ _ (by rfl) (Below.refl _ _)
                      simp only [Act.put, List.setIfInBounds_toArray, List.set_cons_zero, List.set_cons_succ, List.nil_append, List.cons_append]
                      refine inv_val (i := 45) (by kernel_rfl) rfl rfl (fun w1 hS hd K hK => ?_) ?_
                      · rw [if_neg (by simp [Region.wanted, yielded])]; exact hK.out _ _ (by rfl) (Below.refl _ _)
                      simp only [Act.put, List.setIfInBounds_toArray, List.set_cons_zero, List.set_cons_succ, List.nil_append, List.cons_append]
                      refine inv_val (i := 46) (by kernel_rfl) rfl rfl (fun w1 hS hd K hK => ?_) ?_
                      · rw [if_neg (by simp [Region.wanted, yielded])]; exact hK.out _ _ (by rfl) (Below.refl _ _)
                      simp only [Act.put, List.setIfInBounds_toArray, List.set_cons_zero, List.set_cons_succ, List.nil_append, List.cons_append]
                      refine inv_val (i := 47) (by kernel_rfl) rfl rfl (fun w1 hS hd K hK => ?_) ?_
                      · rw [if_neg (by simp [Region.wanted, yielded])]; exact hK.out _ _ (by rfl) (Below.refl _ _)
                      simp only [Act.put, List.setIfInBounds_toArray, List.set_cons_zero, List.set_cons_succ, List.nil_append, List.cons_append]
                      refine inv_val (i := 48) (by kernel_rfl) rfl rfl (fun w1 hS hd K hK => ?_) ?_
                      · rw [if_neg (by simp [Region.wanted, yielded])]; exact hK.out _ _ (by rfl) (Below.refl _ _)
                      simp only [Act.put, List.setIfInBounds_toArray, List.set_cons_zero, List.set_cons_succ, List.nil_append, List.cons_append]
                      refine inv_val (i := 49) (by kernel_rfl) rfl rfl (fun w1 hS hd K hK => ?_) ?_
                      · (try dsimp only at hS); go_simp; exact hK.out _ _ (by simp only [Act.put, List.setIfInBounds_toArray, List.set_cons_zero, List.set_cons_succ, List.nil_append, List.cons_append]; rfl) (Below.refl _ _)
                      simp only [Act.put, List.setIfInBounds_toArray, List.set_cons_zero, List.set_cons_succ, List.nil_append, List.cons_append]
                      refine inv_val (i := 50) (by kernel_rfl) rfl rfl (fun w1 hS hd K hK => ?_) ?_
                      · (try dsimp only at hS); go_simp; exact hK.out _ _ (by simp only [Act.put, List.setIfInBounds_toArray, List.set_cons_zero, List.set_cons_succ, List.nil_append, List.cons_append]; rfl) (Below.refl _ _)
                      simp only [Act.put, List.setIfInBounds_toArray, List.set_cons_zero, List.set_cons_succ, List.nil_append, List.cons_append]
                      refine inv_val (i := 51) (by kernel_rfl) rfl rfl (fun w1 hS hd K hK => ?_) ?_
                      · (try dsimp only at hS); go_simp; exact hK.out _ _ (by simp only [Act.put, List.setIfInBounds_toArray, List.set_cons_zero, List.set_cons_succ, List.nil_append, List.cons_append]; rfl) (Below.refl _ _)
                      simp only [Act.put, List.setIfInBounds_toArray, List.set_cons_zero, List.set_cons_succ, List.nil_append, List.cons_append]
                      refine inv_done (by kernel_rfl) (fun w10 hS hd => ?_)
                      have HF10 := Lib.hid (chain HB.out hS.1.1)
                      clear hS hd c0 c1 c2 c3 d0 d1 d2 d3 p0 p1 hz9
                      go_wp2
                      go_ret
                      exact ⟨rfl, HF10.out⟩
                · have hc1 : (fl.length : Int) ≤ k := by omega
                  clear hlt
                  go_wp2_with fail
                  refine wp_region_inv (R := Blw) (S := (fun w' => Below wr.heap.size wr w' ∧ w'.cell? ⟨w.heap.size, 0, none⟩ = some (.string n) ∧ w'.cell? ⟨w.heap.size, 1, none⟩ = some (.slice (some ⟨b, o, none⟩) l.length pc))) 12 (Spec.val ?_ :: Spec.val ?_ :: Spec.val ?_ :: (New.reach ra) :: Spec.val ?_ :: Spec.val ?_ :: Spec.val ?_ :: Spec.val ?_ :: Spec.val ?_ :: (New.reach rb) :: (ptrS wr.heap.size (.cells #[.int .i64 0, .string ByteArray.empty, .slice none 0 0, .slice none 0 0] 34)) :: (ptrS wr.heap.size (.cells #[.int .i64 0, .string ByteArray.empty, .slice none 0 0, .slice none 0 0] 34)) :: []) (by kernel_rfl) (by kernel_rfl) rfl (fun w1 w2 h hb => ⟨chain h.1 hb, cell_step h.2.1 hb, cell_step h.2.2 hb⟩) (⟨(Below.refl _ _).drew, p0, p1⟩) ?hm3
                  case' hm3 => skip
                  refine inv_val (i := 0) (by kernel_rfl) rfl rfl (fun w1 hS hd K hK => ?_) ?_
                  · (try dsimp only at hS); go_simp; exact hK.out _ _ (by simp only [Act.put, List.setIfInBounds_toArray, List.set_cons_zero, List.set_cons_succ, List.nil_append, List.cons_append]; rfl) (Below.refl _ _)
                  simp only [Act.put, List.setIfInBounds_toArray, List.set_cons_zero, List.set_cons_succ, List.nil_append, List.cons_append]
                  refine inv_val (i := 1) (by kernel_rfl) rfl rfl (fun w1 hS hd K hK => ?_) ?_
                  · (try dsimp only at hS); go_simp; exact hK.out _ _ (by simp only [Act.put, List.setIfInBounds_toArray, List.set_cons_zero, List.set_cons_succ, List.nil_append, List.cons_append]; rfl) (Below.refl _ _)
                  simp only [Act.put, List.setIfInBounds_toArray, List.set_cons_zero, List.set_cons_succ, List.nil_append, List.cons_append]
                  refine inv_val (i := 2) (by kernel_rfl) rfl rfl (fun w1 hS hd K hK => ?_) ?_
                  · (try dsimp only at hS); go_simp; exact hK.out _ _ (by simp only [Act.put, List.setIfInBounds_toArray, List.set_cons_zero, List.set_cons_succ, List.nil_append, List.cons_append]; rfl) (Below.refl _ _)
                  simp only [Act.put, List.setIfInBounds_toArray, List.set_cons_zero, List.set_cons_succ, List.nil_append, List.cons_append]
                  refine inv_new (i := 3) (by kernel_rfl) rfl rfl (fun w1 hS hd K hK => ?_) (fun v3 => ?_)
                  · (try dsimp only at hS); go_simp; refine (of_any _ _ now n l (flr l fl k) _ (HP.out.below (chain HB.out hS.1)) (HI.out.below hS.1) HLN.out HFLN.out).mono ?_; rintro e w2 ⟨u, rfl, hu, hb⟩; exact hK.out _ _ _ (by simp only [Act.put, List.setIfInBounds_toArray, List.set_cons_zero, List.set_cons_succ, List.nil_append, List.cons_append] <;> rfl) (show ReachAt w2 u ra by rw [HRA.out]; exact hu.at) (reachOwn_ge hu) hb
                  simp only [Act.put, List.setIfInBounds_toArray, List.set_cons_zero, List.set_cons_succ, List.nil_append, List.cons_append]
                  refine inv_val (i := 4) (by kernel_rfl) rfl rfl (fun w1 hS hd K hK => ?_) ?_
                  · (try dsimp only at hS); go_simp; exact hK.out _ _ (by simp only [Act.put, List.setIfInBounds_toArray, List.set_cons_zero, List.set_cons_succ, List.nil_append, List.cons_append]; rfl) (Below.refl _ _)
                  simp only [Act.put, List.setIfInBounds_toArray, List.set_cons_zero, List.set_cons_succ, List.nil_append, List.cons_append]
                  refine inv_val (i := 5) (by kernel_rfl) rfl rfl (fun w1 hS hd K hK => ?_) ?_
                  · (try dsimp only at hS); go_simp; exact hK.out _ _ (by simp only [Act.put, List.setIfInBounds_toArray, List.set_cons_zero, List.set_cons_succ, List.nil_append, List.cons_append]; rfl) (Below.refl _ _)
                  simp only [Act.put, List.setIfInBounds_toArray, List.set_cons_zero, List.set_cons_succ, List.nil_append, List.cons_append]
                  refine inv_val (i := 6) (by kernel_rfl) rfl rfl (fun w1 hS hd K hK => ?_) ?_
                  · (try dsimp only at hS); go_simp; exact hK.out _ _ (by simp only [Act.put, List.setIfInBounds_toArray, List.set_cons_zero, List.set_cons_succ, List.nil_append, List.cons_append]; rfl) (Below.refl _ _)
                  simp only [Act.put, List.setIfInBounds_toArray, List.set_cons_zero, List.set_cons_succ, List.nil_append, List.cons_append]
                  refine inv_val (i := 7) (by kernel_rfl) rfl rfl (fun w1 hS hd K hK => ?_) ?_
                  · (try dsimp only at hS); go_simp; exact hK.out _ _ (by simp only [Act.put, List.setIfInBounds_toArray, List.set_cons_zero, List.set_cons_succ, List.nil_append, List.cons_append]; rfl) (Below.refl _ _)
                  simp only [Act.put, List.setIfInBounds_toArray, List.set_cons_zero, List.set_cons_succ, List.nil_append, List.cons_append]
                  refine inv_val (i := 8) (by kernel_rfl) rfl rfl (fun w1 hS hd K hK => ?_) ?_
                  · (try dsimp only at hS); go_simp; exact hK.out _ _ (by simp only [Act.put, List.setIfInBounds_toArray, List.set_cons_zero, List.set_cons_succ, List.nil_append, List.cons_append]; rfl) (Below.refl _ _)
                  simp only [Act.put, List.setIfInBounds_toArray, List.set_cons_zero, List.set_cons_succ, List.nil_append, List.cons_append]
                  refine inv_new (i := 9) (by kernel_rfl) rfl rfl (fun w1 hS hd K hK => ?_) (fun v9 => ?_)
                  · (try dsimp only at hS); go_simp; refine (of_any _ _ nm n l (flr l fl k) _ (HP.out.below (chain HB.out hS.1)) (HI.out.below hS.1) HLN.out HFLN.out).mono ?_; rintro e w2 ⟨u, rfl, hu, hb⟩; exact hK.out _ _ _ (by simp only [Act.put, List.setIfInBounds_toArray, List.set_cons_zero, List.set_cons_succ, List.nil_append, List.cons_append] <;> rfl) (show ReachAt w2 u rb by rw [HRB.out]; exact hu.at) (reachOwn_ge hu) hb
                  simp only [Act.put, List.setIfInBounds_toArray, List.set_cons_zero, List.set_cons_succ, List.nil_append, List.cons_append]
                  refine inv_new (i := 10) (by kernel_rfl) rfl rfl (fun w1 hS hd K hK => ?_) (fun v10 => ?_)
                  · (try dsimp only at hS); go_simp; exact hK.out _ _ _ (by simp only [Act.put, List.setIfInBounds_toArray, List.set_cons_zero, List.set_cons_succ, List.nil_append, List.cons_append] <;> rfl) (ptr_new _ _ hS.1.size) (ptr_own _) (bel_new _ _)
                  simp only [Act.put, List.setIfInBounds_toArray, List.set_cons_zero, List.set_cons_succ, List.nil_append, List.cons_append]
                  refine inv_new (i := 11) (by kernel_rfl) rfl rfl (fun w1 hS hd K hK => ?_) (fun v11 => ?_)
                  · (try dsimp only at hS); go_simp; exact hK.out _ _ _ (by simp only [Act.put, List.setIfInBounds_toArray, List.set_cons_zero, List.set_cons_succ, List.nil_append, List.cons_append] <;> rfl) (ptr_new _ _ hS.1.size) (ptr_own _) (bel_new _ _)
                  simp only [Act.put, List.setIfInBounds_toArray, List.set_cons_zero, List.set_cons_succ, List.nil_append, List.cons_append]
                  refine inv_tail2 (by kernel_rfl) rfl rfl (fun w6 hS hd hap => ?_)
                  have hA : ReachAt w6 v3 ra := hd.out 3
                  have hB9 : ReachAt w6 v9 rb := hd.out 9
                  obtain ⟨b1, e1, hge1, hb1⟩ : ∃ b, v10 = .pointer (some ⟨b, 0, none⟩) ∧ wr.heap.size ≤ b ∧ w6.heap[b]? = some (.cells #[.int .i64 0, .string ByteArray.empty, .slice none 0 0, .slice none 0 0] 34) := hd.out 10
                  obtain ⟨b2, e2, hge2, hb2⟩ : ∃ b, v11 = .pointer (some ⟨b, 0, none⟩) ∧ wr.heap.size ≤ b ∧ w6.heap[b]? = some (.cells #[.int .i64 0, .string ByteArray.empty, .slice none 0 0, .slice none 0 0] 34) := hd.out 11
                  have hne : b1 ≠ b2 := fun h => (show ∀ b, ptrOwn v10 b → ptrOwn v11 b → False from hap.out 10 11 (by decide)) b1 e1 (h ▸ e2)
                  have a1 : ∀ b, reachOwn v3 b → b ≠ b1 := fun b h h' => (show ∀ b, reachOwn v3 b → ptrOwn v10 b → False from hap.out 3 10 (by decide)) b h (h' ▸ e1)
                  have a2 : ∀ b, reachOwn v3 b → b ≠ b2 := fun b h h' => (show ∀ b, reachOwn v3 b → ptrOwn v11 b → False from hap.out 3 11 (by decide)) b h (h' ▸ e2)
                  have a3 : ∀ b, reachOwn v9 b → b ≠ b1 := fun b h h' => (show ∀ b, reachOwn v9 b → ptrOwn v10 b → False from hap.out 9 10 (by decide)) b h (h' ▸ e1)
                  have a4 : ∀ b, reachOwn v9 b → b ≠ b2 := fun b h h' => (show ∀ b, reachOwn v9 b → ptrOwn v11 b → False from hap.out 9 11 (by decide)) b h (h' ▸ e2)
                  obtain ⟨xa, xc, xfa, xfc, hz⟩ := hA.form
                  subst hz
                  obtain ⟨ya, yc, yfa, yfc, hz⟩ := hB9.form
                  subst hz
                  subst e1 e2
                  have HN := Lib.hid (two_set hb1 hb2 hne hA hB9 a1 a2 a3 a4)
                  have HB7 := Lib.hid (set4_below (x0 := .int .i64 rb.now) (x1 := .string rb.name) (x2 := .slice ya rb.l.length yc) (x3 := .slice yfa rb.fl.length yfc) (set4_below (x0 := .int .i64 ra.now) (x1 := .string ra.name) (x2 := .slice xa ra.l.length xc) (x3 := .slice xfa ra.fl.length xfc) hS.1 hge1) hge2)
                  obtain ⟨c0, c1, c2, c3⟩ := row4 hb1
                  obtain ⟨d0, d1, d2, d3⟩ := row4 hb2
                  have f0 := frozen_row (o := 0) hb1
                  have f1 := frozen_row (o := 1) hb1
                  have f2 := frozen_row (o := 2) hb1
                  have f3 := frozen_row (o := 3) hb1
                  have f4 := frozen_row (o := 0) hb2
                  have f5 := frozen_row (o := 1) hb2
                  have f6 := frozen_row (o := 2) hb2
                  have f7 := frozen_row (o := 3) hb2
                  have HS := Lib.hid hS.1
                  clear hS hd hap hA hB9 a1 a2 a3 a4 hb1 hb2 p0 p1
                  go_wp2_with fail
                  obtain ⟨PA, hPA⟩ : ∃ p, p = ra.start ti t := ⟨_, rfl⟩
                  obtain ⟨PB, hPB⟩ : ∃ p, p = rb.start ti t := ⟨_, rfl⟩
                  obtain ⟨X, was⟩ := PA
                  obtain ⟨Y, is⟩ := PB
                  obtain ⟨r1, r2, r3, r4, r5, r6⟩ := HRS2.out
                  rw [← hPA, ← hPB] at r4 r5
                  dsimp only at r4 r5
                  subst r4
                  have HPA := Lib.hid hPA
                  have HPBS := Lib.hid hPB
                  obtain ⟨FA, hFA⟩ : ∃ x, x = ra.from ti := ⟨_, rfl⟩
                  obtain ⟨FB, hFB⟩ : ∃ x, x = rb.from ti := ⟨_, rfl⟩
                  obtain ⟨_, y1, _, _⟩ := HCL.out ti htl
                  replace y1 := ((HB.out.trans (HB7.out.mono HB.out.size)).cell (p := ⟨b, _, none⟩) hbw).trans y1
                  have hev := tier_every HOK.out ti htl
                  obtain ⟨ev, hee⟩ : ∃ x, x = (l.getD ti TierV.zero).every := ⟨_, rfl⟩
                  rw [← hee] at y1 hev r2
                  rw [← hFA] at r1 r2 r3 r6
                  rw [← hFB] at r1
                  have HFA := Lib.hid hFA
                  have HFB := Lib.hid hFB
                  have HR6 := Lib.hid r6
                  have HR5 := Lib.hid r5
                  have hrem : FA.tmod ev = 0 := by rw [Int.tmod_eq_emod_of_nonneg r3]; exact r2
                  have hev0 : ¬ ev = 0 := by omega
                  have hIA : I64 FA := by rw [hFA]; exact RV.from_I64 HN.out.1.lies NA.out ti
                  unfold I64 at hIA
                  have HY1 := Lib.hid y1
                  clear hPA hPB hFA hFB hee r2 r5 r6 c0 c1 c2 c3 d0 d1 d2 d3 f0 f1 f2 f3 f4 f5 f6 f7 y1 HRS2
                  refine (start_any _ ra ti t _ HN.out.1.lies NA.out KT.out KTT.out).mono ?_
                  rintro e w8 ⟨rfl, hb⟩
                  rw [← HPA.out]
                  have HX8 := Lib.hid (HN.out.1.step hb)
                  have HY8 := Lib.hid (HN.out.2.step hb)
                  have HB8 := Lib.hid (chain HB7.out hb)
                  have HZ8 := Lib.hid (cell_step HY1.out hb)
                  clear hb HN HB7 HY1
                  obtain ⟨d0, d1, d2, d3⟩ := HY8.out.cells
                  go_wp2_with fail
                  refine (start_any _ rb ti t _ HY8.out.lies NB.out KT.out KTT.out).mono ?_
                  rintro e w9 ⟨rfl, hb⟩
                  rw [← HPBS.out]
                  have HX9 := Lib.hid (HX8.out.step hb)
                  have HY9 := Lib.hid (HY8.out.step hb)
                  have HB9 := Lib.hid (chain HB8.out hb)
                  have hz9 := cell_step HZ8.out hb
                  clear hb d0 d1 d2 d3 HX8 HY8 HB8 HZ8
                  obtain ⟨c0, c1, c2, c3⟩ := HX9.out.cells
                  obtain ⟨d0, d1, d2, d3⟩ := HY9.out.cells
                  have hpb9 := heap_step HPB.out HB9.out
                  obtain ⟨p0, p1⟩ := row2 hpb9
                  clear hpb9
                  by_cases hik : ti < k
                  · have hIT := HI.out.below HB9.out
                    have hgI := int_ok hIT ti (by rw [HFL.out]; exact hik)
                    obtain ⟨a5, c5, e5, _, _, h5⟩ := hIT
                    injection e5 with e5 e6 e7
                    obtain ⟨fb, fo, e8, _, hcell5⟩ := h5 (by intro h; have := HFL.out; rw [h] at this; simp at this; omega)
                    rw [← e5] at e8
                    subst e8
                    have z5 := hcell5 ti (by rw [HFL.out]; exact hik)
                    have r6 := HR6.out hik
                    obtain ⟨G, hG⟩ : ∃ G, G = (flr l fl k).getD ti 0 := ⟨_, rfl⟩
                    rw [← hG] at z5 r6 hgI
                    unfold I64 at hgI
                    clear e5 e6 e7 h5 hcell5 hG
                    cases is
                    · go_wp2_with fail
                      refine wp_region_inv (R := Blw) (S := (fun w' => (Below wr.heap.size wr w' ∧ RBox w' b1 xa xc xfa xfc ra ∧ RBox w' b2 ya yc yfa yfc rb) ∧ w'.cell? ⟨b1, 0, none⟩ = some (.int .i64 ra.now) ∧ w'.cell? ⟨b1, 1, none⟩ = some (.string ra.name) ∧ w'.cell? ⟨b1, 2, none⟩ = some (.slice xa ra.l.length xc) ∧ w'.cell? ⟨b1, 3, none⟩ = some (.slice xfa ra.fl.length xfc) ∧ w'.cell? ⟨b2, 0, none⟩ = some (.int .i64 rb.now) ∧ w'.cell? ⟨b2, 1, none⟩ = some (.string rb.name) ∧ w'.cell? ⟨b2, 2, none⟩ = some (.slice ya rb.l.length yc) ∧ w'.cell? ⟨b2, 3, none⟩ = some (.slice yfa rb.fl.length yfc) ∧ w'.cell? ⟨w.heap.size, 1, none⟩ = some (.slice (some ⟨b, o, none⟩) l.length pc) ∧ w'.cell? ⟨b, o + ti * 4 + 1, none⟩ = some (.int .i64 ev) ∧ w'.cell? ⟨fb, fo + ti, none⟩ = some (.int .i64 G))) 52 (Spec.val ?_ :: Spec.val ?_ :: Spec.val ?_ :: Spec.val ?_ :: Spec.val ?_ :: Spec.val ?_ :: Spec.val ?_ :: Spec.val ?_ :: Spec.val ?_ :: Spec.val ?_ :: Spec.val ?_ :: Spec.val ?_ :: Spec.val ?_ :: Spec.val ?_ :: Spec.val ?_ :: Spec.val ?_ :: Spec.val ?_ :: Spec.val ?_ :: Spec.val ?_ :: Spec.val ?_ :: Spec.val ?_ :: Spec.val ?_ :: Spec.val ?_ :: Spec.val ?_ :: Spec.val ?_ :: Spec.val ?_ :: Spec.val ?_ :: Spec.val ?_ :: Spec.val ?_ :: Spec.val ?_ :: Spec.val ?_ :: Spec.val ?_ :: Spec.val ?_ :: Spec.val ?_ :: Spec.val ?_ :: Spec.val ?_ :: Spec.val ?_ :: Spec.val ?_ :: Spec.val ?_ :: Spec.val ?_ :: Spec.val ?_ :: Spec.val ?_ :: Spec.val ?_ :: Spec.val ?_ :: Spec.val ?_ :: Spec.val ?_ :: Spec.val ?_ :: Spec.val ?_ :: Spec.val ?_ :: Spec.val ?_ :: Spec.val ?_ :: Spec.val ?_ :: []) (by kernel_rfl) (by kernel_rfl) rfl (fun w1 w2 h hb => ⟨⟨chain h.1.1 hb, h.1.2.1.step hb, h.1.2.2.step hb⟩, cell_step h.2.1 hb, cell_step h.2.2.1 hb, cell_step h.2.2.2.1 hb, cell_step h.2.2.2.2.1 hb, cell_step h.2.2.2.2.2.1 hb, cell_step h.2.2.2.2.2.2.1 hb, cell_step h.2.2.2.2.2.2.2.1 hb, cell_step h.2.2.2.2.2.2.2.2.1 hb, cell_step h.2.2.2.2.2.2.2.2.2.1 hb, cell_step h.2.2.2.2.2.2.2.2.2.2.1 hb, cell_step h.2.2.2.2.2.2.2.2.2.2.2 hb⟩) (⟨⟨HB9.out.drew, HX9.out.step (Below.refl _ _).drew, HY9.out.step (Below.refl _ _).drew⟩, c0, c1, c2, c3, d0, d1, d2, d3, p1, hz9, z5⟩) ?hm8
                      case' hm8 => skip
                      refine inv_val (i := 0) (by kernel_rfl) rfl rfl (fun w1 hS hd K hK => ?_) ?_
                      · (try dsimp only at hS); go_simp; refine (alive_any _).mono ?_; rintro e w2 ⟨rfl, hb⟩; exact hK.out _ _ (by simp only [Act.put, List.setIfInBounds_toArray, List.set_cons_zero, List.set_cons_succ, List.nil_append, List.cons_append]; rfl) hb
                      simp only [Act.put, List.setIfInBounds_toArray, List.set_cons_zero, List.set_cons_succ, List.nil_append, List.cons_append]
                      refine inv_val (i := 1) (by kernel_rfl) rfl rfl (fun w1 hS hd K hK => ?_) ?_
                      · (try dsimp only at hS); go_simp; exact hK.out _ _ (by simp only [Act.put, List.setIfInBounds_toArray, List.set_cons_zero, List.set_cons_succ, List.nil_append, List.cons_append]; rfl) (Below.refl _ _)
                      simp only [Act.put, List.setIfInBounds_toArray, List.set_cons_zero, List.set_cons_succ, List.nil_append, List.cons_append]
                      refine inv_val (i := 2) (by kernel_rfl) rfl rfl (fun w1 hS hd K hK => ?_) ?_
                      · (try dsimp only at hS); go_simp; exact hK.out _ _ (by simp only [Act.put, List.setIfInBounds_toArray, List.set_cons_zero, List.set_cons_succ, List.nil_append, List.cons_append]; rfl) (Below.refl _ _)
                      simp only [Act.put, List.setIfInBounds_toArray, List.set_cons_zero, List.set_cons_succ, List.nil_append, List.cons_append]
                      refine inv_val (i := 3) (by kernel_rfl) rfl rfl (fun w1 hS hd K hK => ?_) ?_
                      · (try dsimp only at hS); go_simp; exact hK.out _ _ (by simp only [Act.put, List.setIfInBounds_toArray, List.set_cons_zero, List.set_cons_succ, List.nil_append, List.cons_append]; rfl) (Below.refl _ _)
                      simp only [Act.put, List.setIfInBounds_toArray, List.set_cons_zero, List.set_cons_succ, List.nil_append, List.cons_append]
                      refine inv_val (i := 4) (by kernel_rfl) rfl rfl (fun w1 hS hd K hK => ?_) ?_
                      · (try dsimp only at hS); go_simp; refine (from_any _ ra ti _ hS.1.2.1.lies NA.out KT.out).mono ?_; rintro e w2 ⟨rfl, hb⟩; rw [← HFA.out]; exact hK.out _ _ (by simp only [Act.put, List.setIfInBounds_toArray, List.set_cons_zero, List.set_cons_succ, List.nil_append, List.cons_append]; rfl) hb
                      simp only [Act.put, List.setIfInBounds_toArray, List.set_cons_zero, List.set_cons_succ, List.nil_append, List.cons_append]
                      refine inv_val (i := 5) (by kernel_rfl) rfl rfl (fun w1 hS hd K hK => ?_) ?_
                      · (try dsimp only at hS); go_simp; exact hK.out _ _ (by simp only [Act.put, List.setIfInBounds_toArray, List.set_cons_zero, List.set_cons_succ, List.nil_append, List.cons_append]; rfl) (Below.refl _ _)
                      simp only [Act.put, List.setIfInBounds_toArray, List.set_cons_zero, List.set_cons_succ, List.nil_append, List.cons_append]
                      refine inv_val (i := 6) (by kernel_rfl) rfl rfl (fun w1 hS hd K hK => ?_) ?_
                      · (try dsimp only at hS); go_simp; exact hK.out _ _ (by simp only [Act.put, List.setIfInBounds_toArray, List.set_cons_zero, List.set_cons_succ, List.nil_append, List.cons_append]; rfl) (Below.refl _ _)
                      simp only [Act.put, List.setIfInBounds_toArray, List.set_cons_zero, List.set_cons_succ, List.nil_append, List.cons_append]
                      refine inv_val (i := 7) (by kernel_rfl) rfl rfl (fun w1 hS hd K hK => ?_) ?_
                      · (try dsimp only at hS); go_simp; refine (from_any _ rb ti _ hS.1.2.2.lies NB.out KT.out).mono ?_; rintro e w2 ⟨rfl, hb⟩; rw [← HFB.out]; exact hK.out _ _ (by simp only [Act.put, List.setIfInBounds_toArray, List.set_cons_zero, List.set_cons_succ, List.nil_append, List.cons_append]; rfl) hb
                      simp only [Act.put, List.setIfInBounds_toArray, List.set_cons_zero, List.set_cons_succ, List.nil_append, List.cons_append]
                      refine inv_val (i := 8) (by kernel_rfl) rfl rfl (fun w1 hS hd K hK => ?_) ?_
                      · (try dsimp only at hS); go_simp; exact hK.out _ _ (by simp only [Act.put, List.setIfInBounds_toArray, List.set_cons_zero, List.set_cons_succ, List.nil_append, List.cons_append]; rfl) (Below.refl _ _)
                      simp only [Act.put, List.setIfInBounds_toArray, List.set_cons_zero, List.set_cons_succ, List.nil_append, List.cons_append]
                      refine inv_val (i := 9) (by kernel_rfl) rfl rfl (fun w1 hS hd K hK => ?_) ?_
                      · (try dsimp only at hS); go_simp; exact hK.out _ _ (by simp only [Act.put, List.setIfInBounds_toArray, List.set_cons_zero, List.set_cons_succ, List.nil_append, List.cons_append]; rfl) (Below.refl _ _)
                      simp only [Act.put, List.setIfInBounds_toArray, List.set_cons_zero, List.set_cons_succ, List.nil_append, List.cons_append]
                      refine inv_val (i := 10) (by kernel_rfl) rfl rfl (fun w1 hS hd K hK => ?_) ?_
                      · (try dsimp only at hS); go_simp; exact hK.out _ _ (by simp only [Act.put, List.setIfInBounds_toArray, List.set_cons_zero, List.set_cons_succ, List.nil_append, List.cons_append]; rfl) (Below.refl _ _)
                      simp only [Act.put, List.setIfInBounds_toArray, List.set_cons_zero, List.set_cons_succ, List.nil_append, List.cons_append]
                      refine inv_val (i := 11) (by kernel_rfl) rfl rfl (fun w1 hS hd K hK => ?_) ?_
                      · (try dsimp only at hS); go_simp; exact hK.out _ _ (by simp only [Act.put, List.setIfInBounds_toArray, List.set_cons_zero, List.set_cons_succ, List.nil_append, List.cons_append]; rfl) (Below.refl _ _)
                      simp only [Act.put, List.setIfInBounds_toArray, List.set_cons_zero, List.set_cons_succ, List.nil_append, List.cons_append]
                      refine inv_val (i := 12) (by kernel_rfl) rfl rfl (fun w1 hS hd K hK => ?_) ?_
                      · (try dsimp only at hS); go_simp; exact hK.out _ _ (by simp only [Act.put, List.setIfInBounds_toArray, List.set_cons_zero, List.set_cons_succ, List.nil_append, List.cons_append]; rfl) (Below.refl _ _)
                      simp only [Act.put, List.setIfInBounds_toArray, List.set_cons_zero, List.set_cons_succ, List.nil_append, List.cons_append]
                      refine inv_val (i := 13) (by kernel_rfl) rfl rfl (fun w1 hS hd K hK => ?_) ?_
                      · (try dsimp only at hS); go_simp; refine (from_any _ ra ti _ hS.1.2.1.lies NA.out KT.out).mono ?_; rintro e w2 ⟨rfl, hb⟩; rw [← HFA.out]; exact hK.out _ _ (by simp only [Act.put, List.setIfInBounds_toArray, List.set_cons_zero, List.set_cons_succ, List.nil_append, List.cons_append]; rfl) hb
                      simp only [Act.put, List.setIfInBounds_toArray, List.set_cons_zero, List.set_cons_succ, List.nil_append, List.cons_append]
                      refine inv_val (i := 14) (by kernel_rfl) rfl rfl (fun w1 hS hd K hK => ?_) ?_
                      · (try dsimp only at hS); go_simp; exact hK.out _ _ (by simp only [Act.put, List.setIfInBounds_toArray, List.set_cons_zero, List.set_cons_succ, List.nil_append, List.cons_append]; rfl) (Below.refl _ _)
                      simp only [Act.put, List.setIfInBounds_toArray, List.set_cons_zero, List.set_cons_succ, List.nil_append, List.cons_append]
                      refine inv_val (i := 15) (by kernel_rfl) rfl rfl (fun w1 hS hd K hK => ?_) ?_
                      · (try dsimp only at hS); go_simp; exact hK.out _ _ (by simp only [Act.put, List.setIfInBounds_toArray, List.set_cons_zero, List.set_cons_succ, List.nil_append, List.cons_append]; rfl) (Below.refl _ _)
                      simp only [Act.put, List.setIfInBounds_toArray, List.set_cons_zero, List.set_cons_succ, List.nil_append, List.cons_append]
                      refine inv_val (i := 16) (by kernel_rfl) rfl rfl (fun w1 hS hd K hK => ?_) ?_
                      · (try dsimp only at hS); go_simp; exact hK.out _ _ (by simp only [Act.put, List.setIfInBounds_toArray, List.set_cons_zero, List.set_cons_succ, List.nil_append, List.cons_append]; rfl) (Below.refl _ _)
                      simp only [Act.put, List.setIfInBounds_toArray, List.set_cons_zero, List.set_cons_succ, List.nil_append, List.cons_append]
                      refine inv_val (i := 17) (by kernel_rfl) rfl rfl (fun w1 hS hd K hK => ?_) ?_
                      · (try dsimp only at hS); go_simp; exact hK.out _ _ (by simp only [Act.put, List.setIfInBounds_toArray, List.set_cons_zero, List.set_cons_succ, List.nil_append, List.cons_append]; rfl) (Below.refl _ _)
                      simp only [Act.put, List.setIfInBounds_toArray, List.set_cons_zero, List.set_cons_succ, List.nil_append, List.cons_append]
                      refine inv_val (i := 18) (by kernel_rfl) rfl rfl (fun w1 hS hd K hK => ?_) ?_
                      · (try dsimp only at hS); go_simp; exact hK.out _ _ (by simp only [Act.put, List.setIfInBounds_toArray, List.set_cons_zero, List.set_cons_succ, List.nil_append, List.cons_append]; rfl) (Below.refl _ _)
                      simp only [Act.put, List.setIfInBounds_toArray, List.set_cons_zero, List.set_cons_succ, List.nil_append, List.cons_append]
                      refine inv_val (i := 19) (by kernel_rfl) rfl rfl (fun w1 hS hd K hK => ?_) ?_
                      · (try dsimp only at hS); go_simp; exact hK.out _ _ (by simp only [Act.put, List.setIfInBounds_toArray, List.set_cons_zero, List.set_cons_succ, List.nil_append, List.cons_append]; rfl) (Below.refl _ _)
                      simp only [Act.put, List.setIfInBounds_toArray, List.set_cons_zero, List.set_cons_succ, List.nil_append, List.cons_append]
                      refine inv_val (i := 20) (by kernel_rfl) rfl rfl (fun w1 hS hd K hK => ?_) ?_
                      · (try dsimp only at hS); go_simp; exact hK.out _ _ (by simp only [Act.put, List.setIfInBounds_toArray, List.set_cons_zero, List.set_cons_succ, List.nil_append, List.cons_append]; rfl) (Below.refl _ _)
                      simp only [Act.put, List.setIfInBounds_toArray, List.set_cons_zero, List.set_cons_succ, List.nil_append, List.cons_append]
                      refine inv_val (i := 21) (by kernel_rfl) rfl rfl (fun w1 hS hd K hK => ?_) ?_
                      · (try dsimp only at hS); go_simp; exact hK.out _ _ (by simp only [Act.put, List.setIfInBounds_toArray, List.set_cons_zero, List.set_cons_succ, List.nil_append, List.cons_append]; rfl) (Below.refl _ _)
                      simp only [Act.put, List.setIfInBounds_toArray, List.set_cons_zero, List.set_cons_succ, List.nil_append, List.cons_append]
                      refine inv_val (i := 22) (by kernel_rfl) rfl rfl (fun w1 hS hd K hK => ?_) ?_
                      · (try dsimp only at hS); go_simp; exact hK.out _ _ (by simp only [Act.put, List.setIfInBounds_toArray, List.set_cons_zero, List.set_cons_succ, List.nil_append, List.cons_append]; rfl) (Below.refl _ _)
                      simp only [Act.put, List.setIfInBounds_toArray, List.set_cons_zero, List.set_cons_succ, List.nil_append, List.cons_append]
                      refine inv_val (i := 23) (by kernel_rfl) rfl rfl (fun w1 hS hd K hK => ?_) ?_
                      · (try dsimp only at hS); go_simp; exact hK.out _ _ (by simp only [Act.put, List.setIfInBounds_toArray, List.set_cons_zero, List.set_cons_succ, List.nil_append, List.cons_append]; rfl) (Below.refl _ _)
                      simp only [Act.put, List.setIfInBounds_toArray, List.set_cons_zero, List.set_cons_succ, List.nil_append, List.cons_append]
                      refine inv_val (i := 24) (by kernel_rfl) rfl rfl (fun w1 hS hd K hK => ?_) ?_
                      · (try dsimp only at hS); go_simp; exact hK.out _ _ (by simp only [Act.put, List.setIfInBounds_toArray, List.set_cons_zero, List.set_cons_succ, List.nil_append, List.cons_append]; rfl) (Below.refl _ _)
                      simp only [Act.put, List.setIfInBounds_toArray, List.set_cons_zero, List.set_cons_succ, List.nil_append, List.cons_append]
                      refine inv_val (i := 25) (by kernel_rfl) rfl rfl (fun w1 hS hd K hK => ?_) ?_
                      · (try dsimp only at hS); go_simp; exact hK.out _ _ (by simp only [Act.put, List.setIfInBounds_toArray, List.set_cons_zero, List.set_cons_succ, List.nil_append, List.cons_append]; rfl) (Below.refl _ _)
                      simp only [Act.put, List.setIfInBounds_toArray, List.set_cons_zero, List.set_cons_succ, List.nil_append, List.cons_append]
                      refine inv_val (i := 26) (by kernel_rfl) rfl rfl (fun w1 hS hd K hK => ?_) ?_
                      · (try dsimp only at hS); go_simp; exact hK.out _ _ (by simp only [Act.put, List.setIfInBounds_toArray, List.set_cons_zero, List.set_cons_succ, List.nil_append, List.cons_append]; rfl) (Below.refl _ _)
                      simp only [Act.put, List.setIfInBounds_toArray, List.set_cons_zero, List.set_cons_succ, List.nil_append, List.cons_append]
                      refine inv_val (i := 27) (by kernel_rfl) rfl rfl (fun w1 hS hd K hK => ?_) ?_
                      · (try dsimp only at hS); go_simp; exact hK.out _ _ (by simp only [Act.put, List.setIfInBounds_toArray, List.set_cons_zero, List.set_cons_succ, List.nil_append, List.cons_append]; rfl) (Below.refl _ _)
                      simp only [Act.put, List.setIfInBounds_toArray, List.set_cons_zero, List.set_cons_succ, List.nil_append, List.cons_append]
                      refine inv_val (i := 28) (by kernel_rfl) rfl rfl (fun w1 hS hd K hK => ?_) ?_
                      · (try dsimp only at hS); go_simp; exact hK.out _ _ (by simp only [Act.put, List.setIfInBounds_toArray, List.set_cons_zero, List.set_cons_succ, List.nil_append, List.cons_append]; rfl) (Below.refl _ _)
                      simp only [Act.put, List.setIfInBounds_toArray, List.set_cons_zero, List.set_cons_succ, List.nil_append, List.cons_append]
                      refine inv_val (i := 29) (by kernel_rfl) rfl rfl (fun w1 hS hd K hK => ?_) ?_
                      · (try dsimp only at hS); go_simp; exact hK.out _ _ (by simp only [Act.put, List.setIfInBounds_toArray, List.set_cons_zero, List.set_cons_succ, List.nil_append, List.cons_append]; rfl) (Below.refl _ _)
                      simp only [Act.put, List.setIfInBounds_toArray, List.set_cons_zero, List.set_cons_succ, List.nil_append, List.cons_append]
                      refine inv_val (i := 30) (by kernel_rfl) rfl rfl (fun w1 hS hd K hK => ?_) ?_
                      · (try dsimp only at hS); go_simp; exact hK.out _ _ (by simp only [Act.put, List.setIfInBounds_toArray, List.set_cons_zero, List.set_cons_succ, List.nil_append, List.cons_append]; rfl) (Below.refl _ _)
                      simp only [Act.put, List.setIfInBounds_toArray, List.set_cons_zero, List.set_cons_succ, List.nil_append, List.cons_append]
                      refine inv_val (i := 31) (by kernel_rfl) rfl rfl (fun w1 hS hd K hK => ?_) ?_
                      · (try dsimp only at hS); go_simp; exact hK.out _ _ (by simp only [Act.put, List.setIfInBounds_toArray, List.set_cons_zero, List.set_cons_succ, List.nil_append, List.cons_append]; rfl) (Below.refl _ _)
                      simp only [Act.put, List.setIfInBounds_toArray, List.set_cons_zero, List.set_cons_succ, List.nil_append, List.cons_append]
                      refine inv_val (i := 32) (by kernel_rfl) rfl rfl (fun w1 hS hd K hK => ?_) ?_
                      · rw [if_neg (by simp [Region.wanted, yielded])]; exact hK.out _ _ (by rfl) (Below.refl _ _)
                      simp only [Act.put, List.setIfInBounds_toArray, List.set_cons_zero, List.set_cons_succ, List.nil_append, List.cons_append]
                      refine inv_val (i := 33) (by kernel_rfl) rfl rfl (fun w1 hS hd K hK => ?_) ?_
                      · (try dsimp only at hS); go_simp; exact hK.out _ _ (by simp only [Act.put, List.setIfInBounds_toArray, List.set_cons_zero, List.set_cons_succ, List.nil_append, List.cons_append]; rfl) (Below.refl _ _)
                      simp only [Act.put, List.setIfInBounds_toArray, List.set_cons_zero, List.set_cons_succ, List.nil_append, List.cons_append]
                      refine inv_val (i := 34) (by kernel_rfl) rfl rfl (fun w1 hS hd K hK => ?_) ?_
                      · (try dsimp only at hS); go_simp; exact hK.out _ _ (by simp only [Act.put, List.setIfInBounds_toArray, List.set_cons_zero, List.set_cons_succ, List.nil_append, List.cons_append]; rfl) (Below.refl _ _)
                      simp only [Act.put, List.setIfInBounds_toArray, List.set_cons_zero, List.set_cons_succ, List.nil_append, List.cons_append]
                      refine inv_val (i := 35) (by kernel_rfl) rfl rfl (fun w1 hS hd K hK => ?_) ?_
                      · (try dsimp only at hS); go_simp; exact hK.out _ _ (by simp only [Act.put, List.setIfInBounds_toArray, List.set_cons_zero, List.set_cons_succ, List.nil_append, List.cons_append]; rfl) (Below.refl _ _)
                      simp only [Act.put, List.setIfInBounds_toArray, List.set_cons_zero, List.set_cons_succ, List.nil_append, List.cons_append]
                      refine inv_val (i := 36) (by kernel_rfl) rfl rfl (fun w1 hS hd K hK => ?_) ?_
                      · (try dsimp only at hS); go_simp; exact hK.out _ _ (by simp only [Act.put, List.setIfInBounds_toArray, List.set_cons_zero, List.set_cons_succ, List.nil_append, List.cons_append]; rfl) (Below.refl _ _)
                      simp only [Act.put, List.setIfInBounds_toArray, List.set_cons_zero, List.set_cons_succ, List.nil_append, List.cons_append]
                      refine inv_val (i := 37) (by kernel_rfl) rfl rfl (fun w1 hS hd K hK => ?_) ?_
                      · (try dsimp only at hS); go_simp; exact hK.out _ _ (by simp only [Act.put, List.setIfInBounds_toArray, List.set_cons_zero, List.set_cons_succ, List.nil_append, List.cons_append]; rfl) (Below.refl _ _)
                      simp only [Act.put, List.setIfInBounds_toArray, List.set_cons_zero, List.set_cons_succ, List.nil_append, List.cons_append]
                      refine inv_val (i := 38) (by kernel_rfl) rfl rfl (fun w1 hS hd K hK => ?_) ?_
                      · (try dsimp only at hS); go_simp; exact hK.out _ _ (by simp only [Act.put, List.setIfInBounds_toArray, List.set_cons_zero, List.set_cons_succ, List.nil_append, List.cons_append]; rfl) (Below.refl _ _)
                      simp only [Act.put, List.setIfInBounds_toArray, List.set_cons_zero, List.set_cons_succ, List.nil_append, List.cons_append]
                      refine inv_val (i := 39) (by kernel_rfl) rfl rfl (fun w1 hS hd K hK => ?_) ?_
                      · (try dsimp only at hS); go_simp; exact hK.out _ _ (by simp only [Act.put, List.setIfInBounds_toArray, List.set_cons_zero, List.set_cons_succ, List.nil_append, List.cons_append]; rfl) (Below.refl _ _)
                      simp only [Act.put, List.setIfInBounds_toArray, List.set_cons_zero, List.set_cons_succ, List.nil_append, List.cons_append]
                      refine inv_val (i := 40) (by kernel_rfl) rfl rfl (fun w1 hS hd K hK => ?_) ?_
                      · (try dsimp only at hS); go_simp; exact hK.out _ _ (by simp only [Act.put, List.setIfInBounds_toArray, List.set_cons_zero, List.set_cons_succ, List.nil_append, List.cons_append]; rfl) (Below.refl _ _)
                      simp only [Act.put, List.setIfInBounds_toArray, List.set_cons_zero, List.set_cons_succ, List.nil_append, List.cons_append]
                      refine inv_val (i := 41) (by kernel_rfl) rfl rfl (fun w1 hS hd K hK => ?_) ?_
                      · (try dsimp only at hS); go_simp; exact hK.out _ _ (by simp only [Act.put, List.setIfInBounds_toArray, List.set_cons_zero, List.set_cons_succ, List.nil_append, List.cons_append]; rfl) (Below.refl _ _)
                      simp only [Act.put, List.setIfInBounds_toArray, List.set_cons_zero, List.set_cons_succ, List.nil_append, List.cons_append]
                      refine inv_val (i := 42) (by kernel_rfl) rfl rfl (fun w1 hS hd K hK => ?_) ?_
                      · (try dsimp only at hS); go_simp; exact hK.out _ _ (by simp only [Act.put, List.setIfInBounds_toArray, List.set_cons_zero, List.set_cons_succ, List.nil_append, List.cons_append]; rfl) (Below.refl _ _)
                      simp only [Act.put, List.setIfInBounds_toArray, List.set_cons_zero, List.set_cons_succ, List.nil_append, List.cons_append]
                      refine inv_val (i := 43) (by kernel_rfl) rfl rfl (fun w1 hS hd K hK => ?_) ?_
                      · (try dsimp only at hS); go_simp; refine (from_any _ ra ti _ hS.1.2.1.lies NA.out KT.out).mono ?_; rintro e w2 ⟨rfl, hb⟩; rw [← HFA.out]; exact hK.out _ _ (by simp only [Act.put, List.setIfInBounds_toArray, List.set_cons_zero, List.set_cons_succ, List.nil_append, List.cons_append]; rfl) hb
                      simp only [Act.put, List.setIfInBounds_toArray, List.set_cons_zero, List.set_cons_succ, List.nil_append, List.cons_append]
                      refine inv_val (i := 44) (by kernel_rfl) rfl rfl (fun w1 hS hd K hK => ?_) ?_
                      · (try dsimp only at hS); go_simp; exact hK.out _ _ (by simp only [Act.put, List.setIfInBounds_toArray, List.set_cons_zero, List.set_cons_succ, List.nil_append, List.cons_append]; rfl) (Below.refl _ _)
                      simp only [Act.put, List.setIfInBounds_toArray, List.set_cons_zero, List.set_cons_succ, List.nil_append, List.cons_append]
                      refine inv_val (i := 45) (by kernel_rfl) rfl rfl (fun w1 hS hd K hK => ?_) ?_
                      · (try dsimp only at hS); go_simp; exact hK.out _ _ (by simp only [Act.put, List.setIfInBounds_toArray, List.set_cons_zero, List.set_cons_succ, List.nil_append, List.cons_append]; rfl) (Below.refl _ _)
                      simp only [Act.put, List.setIfInBounds_toArray, List.set_cons_zero, List.set_cons_succ, List.nil_append, List.cons_append]
                      refine inv_val (i := 46) (by kernel_rfl) rfl rfl (fun w1 hS hd K hK => ?_) ?_
                      · (try dsimp only at hS); go_simp; exact hK.out _ _ (by simp only [Act.put, List.setIfInBounds_toArray, List.set_cons_zero, List.set_cons_succ, List.nil_append, List.cons_append]; rfl) (Below.refl _ _)
                      simp only [Act.put, List.setIfInBounds_toArray, List.set_cons_zero, List.set_cons_succ, List.nil_append, List.cons_append]
                      refine inv_val (i := 47) (by kernel_rfl) rfl rfl (fun w1 hS hd K hK => ?_) ?_
                      · (try dsimp only at hS); go_simp; exact hK.out _ _ (by simp only [Act.put, List.setIfInBounds_toArray, List.set_cons_zero, List.set_cons_succ, List.nil_append, List.cons_append]; rfl) (Below.refl _ _)
                      simp only [Act.put, List.setIfInBounds_toArray, List.set_cons_zero, List.set_cons_succ, List.nil_append, List.cons_append]
                      refine inv_val (i := 48) (by kernel_rfl) rfl rfl (fun w1 hS hd K hK => ?_) ?_
                      · (try dsimp only at hS); go_simp; exact hK.out _ _ (by simp only [Act.put, List.setIfInBounds_toArray, List.set_cons_zero, List.set_cons_succ, List.nil_append, List.cons_append]; rfl) (Below.refl _ _)
                      simp only [Act.put, List.setIfInBounds_toArray, List.set_cons_zero, List.set_cons_succ, List.nil_append, List.cons_append]
                      refine inv_val (i := 49) (by kernel_rfl) rfl rfl (fun w1 hS hd K hK => ?_) ?_
                      · (try dsimp only at hS); go_simp; exact hK.out _ _ (by simp only [Act.put, List.setIfInBounds_toArray, List.set_cons_zero, List.set_cons_succ, List.nil_append, List.cons_append]; rfl) (Below.refl _ _)
                      simp only [Act.put, List.setIfInBounds_toArray, List.set_cons_zero, List.set_cons_succ, List.nil_append, List.cons_append]
                      refine inv_val (i := 50) (by kernel_rfl) rfl rfl (fun w1 hS hd K hK => ?_) ?_
                      · (try dsimp only at hS); go_simp; exact hK.out _ _ (by simp only [Act.put, List.setIfInBounds_toArray, List.set_cons_zero, List.set_cons_succ, List.nil_append, List.cons_append]; rfl) (Below.refl _ _)
                      simp only [Act.put, List.setIfInBounds_toArray, List.set_cons_zero, List.set_cons_succ, List.nil_append, List.cons_append]
                      refine inv_val (i := 51) (by kernel_rfl) rfl rfl (fun w1 hS hd K hK => ?_) ?_
                      · (try dsimp only at hS); go_simp; exact hK.out _ _ (by simp only [Act.put, List.setIfInBounds_toArray, List.set_cons_zero, List.set_cons_succ, List.nil_append, List.cons_append]; rfl) (Below.refl _ _)
                      simp only [Act.put, List.setIfInBounds_toArray, List.set_cons_zero, List.set_cons_succ, List.nil_append, List.cons_append]
                      refine inv_done (by kernel_rfl) (fun w10 hS hd => ?_)
                      have HF10 := Lib.hid (chain HB.out hS.1.1)
                      clear hS hd c0 c1 c2 c3 d0 d1 d2 d3 p0 p1 hz9
                      go_wp2
                      go_ret
                      exact ⟨rfl, HF10.out⟩
                    · have hwas := HR5.out rfl
                      subst hwas
                      go_wp2_with fail
                      refine wp_region_inv (R := Blw) (S := (fun w' => (Below wr.heap.size wr w' ∧ RBox w' b1 xa xc xfa xfc ra ∧ RBox w' b2 ya yc yfa yfc rb) ∧ w'.cell? ⟨b1, 0, none⟩ = some (.int .i64 ra.now) ∧ w'.cell? ⟨b1, 1, none⟩ = some (.string ra.name) ∧ w'.cell? ⟨b1, 2, none⟩ = some (.slice xa ra.l.length xc) ∧ w'.cell? ⟨b1, 3, none⟩ = some (.slice xfa ra.fl.length xfc) ∧ w'.cell? ⟨b2, 0, none⟩ = some (.int .i64 rb.now) ∧ w'.cell? ⟨b2, 1, none⟩ = some (.string rb.name) ∧ w'.cell? ⟨b2, 2, none⟩ = some (.slice ya rb.l.length yc) ∧ w'.cell? ⟨b2, 3, none⟩ = some (.slice yfa rb.fl.length yfc) ∧ w'.cell? ⟨w.heap.size, 1, none⟩ = some (.slice (some ⟨b, o, none⟩) l.length pc) ∧ w'.cell? ⟨b, o + ti * 4 + 1, none⟩ = some (.int .i64 ev) ∧ w'.cell? ⟨fb, fo + ti, none⟩ = some (.int .i64 G))) 52 (Spec.val ?_ :: Spec.val ?_ :: Spec.val ?_ :: Spec.val ?_ :: Spec.val ?_ :: Spec.val ?_ :: Spec.val ?_ :: Spec.val ?_ :: Spec.val ?_ :: Spec.val ?_ :: Spec.val ?_ :: Spec.val ?_ :: Spec.val ?_ :: Spec.val ?_ :: Spec.val ?_ :: Spec.val ?_ :: Spec.val ?_ :: Spec.val ?_ :: Spec.val ?_ :: Spec.val ?_ :: Spec.val ?_ :: Spec.val ?_ :: Spec.val ?_ :: Spec.val ?_ :: Spec.val ?_ :: Spec.val ?_ :: Spec.val ?_ :: Spec.val ?_ :: Spec.val ?_ :: Spec.val ?_ :: Spec.val ?_ :: Spec.val ?_ :: Spec.val ?_ :: Spec.val ?_ :: Spec.val ?_ :: Spec.val ?_ :: Spec.val ?_ :: Spec.val ?_ :: Spec.val ?_ :: Spec.val ?_ :: Spec.val ?_ :: Spec.val ?_ :: Spec.val ?_ :: Spec.val ?_ :: Spec.val ?_ :: Spec.val ?_ :: Spec.val ?_ :: Spec.val ?_ :: Spec.val ?_ :: Spec.val ?_ :: Spec.val ?_ :: Spec.val ?_ :: []) (by kernel_rfl) (by kernel_rfl) rfl (fun w1 w2 h hb => ⟨⟨chain h.1.1 hb, h.1.2.1.step hb, h.1.2.2.step hb⟩, cell_step h.2.1 hb, cell_step h.2.2.1 hb, cell_step h.2.2.2.1 hb, cell_step h.2.2.2.2.1 hb, cell_step h.2.2.2.2.2.1 hb, cell_step h.2.2.2.2.2.2.1 hb, cell_step h.2.2.2.2.2.2.2.1 hb, cell_step h.2.2.2.2.2.2.2.2.1 hb, cell_step h.2.2.2.2.2.2.2.2.2.1 hb, cell_step h.2.2.2.2.2.2.2.2.2.2.1 hb, cell_step h.2.2.2.2.2.2.2.2.2.2.2 hb⟩) (⟨⟨HB9.out.drew, HX9.out.step (Below.refl _ _).drew, HY9.out.step (Below.refl _ _).drew⟩, c0, c1, c2, c3, d0, d1, d2, d3, p1, hz9, z5⟩) ?hm9
                      case' hm9 => skip
                      refine inv_val (i := 0) (by kernel_rfl) rfl rfl (fun w1 hS hd K hK => ?_) ?_
                      · (try dsimp only at hS); go_simp; refine (alive_any _).mono ?_; rintro e w2 ⟨rfl, hb⟩; exact hK.out _ _ (by simp only [Act.put, List.setIfInBounds_toArray, List.set_cons_zero, List.set_cons_succ, List.nil_append, List.cons_append]; rfl) hb
                      simp only [Act.put, List.setIfInBounds_toArray, List.set_cons_zero, List.set_cons_succ, List.nil_append, List.cons_append]
                      refine inv_val (i := 1) (by kernel_rfl) rfl rfl (fun w1 hS hd K hK => ?_) ?_
                      · (try dsimp only at hS); go_simp; exact hK.out _ _ (by simp only [Act.put, List.setIfInBounds_toArray, List.set_cons_zero, List.set_cons_succ, List.nil_append, List.cons_append]; rfl) (Below.refl _ _)
                      simp only [Act.put, List.setIfInBounds_toArray, List.set_cons_zero, List.set_cons_succ, List.nil_append, List.cons_append]
                      refine inv_val (i := 2) (by kernel_rfl) rfl rfl (fun w1 hS hd K hK => ?_) ?_
                      · (try dsimp only at hS); go_simp; exact hK.out _ _ (by simp only [Act.put, List.setIfInBounds_toArray, List.set_cons_zero, List.set_cons_succ, List.nil_append, List.cons_append]; rfl) (Below.refl _ _)
                      simp only [Act.put, List.setIfInBounds_toArray, List.set_cons_zero, List.set_cons_succ, List.nil_append, List.cons_append]
                      refine inv_val (i := 3) (by kernel_rfl) rfl rfl (fun w1 hS hd K hK => ?_) ?_
                      · (try dsimp only at hS); go_simp; exact hK.out _ _ (by simp only [Act.put, List.setIfInBounds_toArray, List.set_cons_zero, List.set_cons_succ, List.nil_append, List.cons_append]; rfl) (Below.refl _ _)
                      simp only [Act.put, List.setIfInBounds_toArray, List.set_cons_zero, List.set_cons_succ, List.nil_append, List.cons_append]
                      refine inv_val (i := 4) (by kernel_rfl) rfl rfl (fun w1 hS hd K hK => ?_) ?_
                      · (try dsimp only at hS); go_simp; refine (from_any _ ra ti _ hS.1.2.1.lies NA.out KT.out).mono ?_; rintro e w2 ⟨rfl, hb⟩; rw [← HFA.out]; exact hK.out _ _ (by simp only [Act.put, List.setIfInBounds_toArray, List.set_cons_zero, List.set_cons_succ, List.nil_append, List.cons_append]; rfl) hb
                      simp only [Act.put, List.setIfInBounds_toArray, List.set_cons_zero, List.set_cons_succ, List.nil_append, List.cons_append]
                      refine inv_val (i := 5) (by kernel_rfl) rfl rfl (fun w1 hS hd K hK => ?_) ?_
                      · (try dsimp only at hS); go_simp; exact hK.out _ _ (by simp only [Act.put, List.setIfInBounds_toArray, List.set_cons_zero, List.set_cons_succ, List.nil_append, List.cons_append]; rfl) (Below.refl _ _)
                      simp only [Act.put, List.setIfInBounds_toArray, List.set_cons_zero, List.set_cons_succ, List.nil_append, List.cons_append]
                      refine inv_val (i := 6) (by kernel_rfl) rfl rfl (fun w1 hS hd K hK => ?_) ?_
                      · (try dsimp only at hS); go_simp; exact hK.out _ _ (by simp only [Act.put, List.setIfInBounds_toArray, List.set_cons_zero, List.set_cons_succ, List.nil_append, List.cons_append]; rfl) (Below.refl _ _)
                      simp only [Act.put, List.setIfInBounds_toArray, List.set_cons_zero, List.set_cons_succ, List.nil_append, List.cons_append]
                      refine inv_val (i := 7) (by kernel_rfl) rfl rfl (fun w1 hS hd K hK => ?_) ?_
                      · (try dsimp only at hS); go_simp; refine (from_any _ rb ti _ hS.1.2.2.lies NB.out KT.out).mono ?_; rintro e w2 ⟨rfl, hb⟩; rw [← HFB.out]; exact hK.out _ _ (by simp only [Act.put, List.setIfInBounds_toArray, List.set_cons_zero, List.set_cons_succ, List.nil_append, List.cons_append]; rfl) hb
                      simp only [Act.put, List.setIfInBounds_toArray, List.set_cons_zero, List.set_cons_succ, List.nil_append, List.cons_append]
                      refine inv_val (i := 8) (by kernel_rfl) rfl rfl (fun w1 hS hd K hK => ?_) ?_
                      · (try dsimp only at hS); go_simp; exact hK.out _ _ (by simp only [Act.put, List.setIfInBounds_toArray, List.set_cons_zero, List.set_cons_succ, List.nil_append, List.cons_append]; rfl) (Below.refl _ _)
                      simp only [Act.put, List.setIfInBounds_toArray, List.set_cons_zero, List.set_cons_succ, List.nil_append, List.cons_append]
                      refine inv_val (i := 9) (by kernel_rfl) rfl rfl (fun w1 hS hd K hK => ?_) ?_
                      · (try dsimp only at hS); go_simp; exact hK.out _ _ (by simp only [Act.put, List.setIfInBounds_toArray, List.set_cons_zero, List.set_cons_succ, List.nil_append, List.cons_append]; rfl) (Below.refl _ _)
                      simp only [Act.put, List.setIfInBounds_toArray, List.set_cons_zero, List.set_cons_succ, List.nil_append, List.cons_append]
                      refine inv_val (i := 10) (by kernel_rfl) rfl rfl (fun w1 hS hd K hK => ?_) ?_
                      · (try dsimp only at hS); go_simp; exact hK.out _ _ (by simp only [Act.put, List.setIfInBounds_toArray, List.set_cons_zero, List.set_cons_succ, List.nil_append, List.cons_append]; rfl) (Below.refl _ _)
                      simp only [Act.put, List.setIfInBounds_toArray, List.set_cons_zero, List.set_cons_succ, List.nil_append, List.cons_append]
                      refine inv_val (i := 11) (by kernel_rfl) rfl rfl (fun w1 hS hd K hK => ?_) ?_
                      · (try dsimp only at hS); go_simp; exact hK.out _ _ (by simp only [Act.put, List.setIfInBounds_toArray, List.set_cons_zero, List.set_cons_succ, List.nil_append, List.cons_append]; rfl) (Below.refl _ _)
                      simp only [Act.put, List.setIfInBounds_toArray, List.set_cons_zero, List.set_cons_succ, List.nil_append, List.cons_append]
                      refine inv_val (i := 12) (by kernel_rfl) rfl rfl (fun w1 hS hd K hK => ?_) ?_
                      · (try dsimp only at hS); go_simp; exact hK.out _ _ (by simp only [Act.put, List.setIfInBounds_toArray, List.set_cons_zero, List.set_cons_succ, List.nil_append, List.cons_append]; rfl) (Below.refl _ _)
                      simp only [Act.put, List.setIfInBounds_toArray, List.set_cons_zero, List.set_cons_succ, List.nil_append, List.cons_append]
                      refine inv_val (i := 13) (by kernel_rfl) rfl rfl (fun w1 hS hd K hK => ?_) ?_
                      · (try dsimp only at hS); go_simp; refine (from_any _ ra ti _ hS.1.2.1.lies NA.out KT.out).mono ?_; rintro e w2 ⟨rfl, hb⟩; rw [← HFA.out]; exact hK.out _ _ (by simp only [Act.put, List.setIfInBounds_toArray, List.set_cons_zero, List.set_cons_succ, List.nil_append, List.cons_append]; rfl) hb
                      simp only [Act.put, List.setIfInBounds_toArray, List.set_cons_zero, List.set_cons_succ, List.nil_append, List.cons_append]
                      refine inv_val (i := 14) (by kernel_rfl) rfl rfl (fun w1 hS hd K hK => ?_) ?_
                      · (try dsimp only at hS); go_simp; exact hK.out _ _ (by simp only [Act.put, List.setIfInBounds_toArray, List.set_cons_zero, List.set_cons_succ, List.nil_append, List.cons_append]; rfl) (Below.refl _ _)
                      simp only [Act.put, List.setIfInBounds_toArray, List.set_cons_zero, List.set_cons_succ, List.nil_append, List.cons_append]
                      refine inv_val (i := 15) (by kernel_rfl) rfl rfl (fun w1 hS hd K hK => ?_) ?_
                      · (try dsimp only at hS); go_simp; exact hK.out _ _ (by simp only [Act.put, List.setIfInBounds_toArray, List.set_cons_zero, List.set_cons_succ, List.nil_append, List.cons_append]; rfl) (Below.refl _ _)
                      simp only [Act.put, List.setIfInBounds_toArray, List.set_cons_zero, List.set_cons_succ, List.nil_append, List.cons_append]
                      refine inv_val (i := 16) (by kernel_rfl) rfl rfl (fun w1 hS hd K hK => ?_) ?_
                      · (try dsimp only at hS); go_simp; exact hK.out _ _ (by simp only [Act.put, List.setIfInBounds_toArray, List.set_cons_zero, List.set_cons_succ, List.nil_append, List.cons_append]; rfl) (Below.refl _ _)
                      simp only [Act.put, List.setIfInBounds_toArray, List.set_cons_zero, List.set_cons_succ, List.nil_append, List.cons_append]
                      refine inv_val (i := 17) (by kernel_rfl) rfl rfl (fun w1 hS hd K hK => ?_) ?_
                      · (try dsimp only at hS); go_simp; exact hK.out _ _ (by simp only [Act.put, List.setIfInBounds_toArray, List.set_cons_zero, List.set_cons_succ, List.nil_append, List.cons_append]; rfl) (Below.refl _ _)
                      simp only [Act.put, List.setIfInBounds_toArray, List.set_cons_zero, List.set_cons_succ, List.nil_append, List.cons_append]
                      refine inv_val (i := 18) (by kernel_rfl) rfl rfl (fun w1 hS hd K hK => ?_) ?_
                      · (try dsimp only at hS); go_simp; exact hK.out _ _ (by simp only [Act.put, List.setIfInBounds_toArray, List.set_cons_zero, List.set_cons_succ, List.nil_append, List.cons_append]; rfl) (Below.refl _ _)
                      simp only [Act.put, List.setIfInBounds_toArray, List.set_cons_zero, List.set_cons_succ, List.nil_append, List.cons_append]
                      refine inv_val (i := 19) (by kernel_rfl) rfl rfl (fun w1 hS hd K hK => ?_) ?_
                      · (try dsimp only at hS); go_simp; exact hK.out _ _ (by simp only [Act.put, List.setIfInBounds_toArray, List.set_cons_zero, List.set_cons_succ, List.nil_append, List.cons_append]; rfl) (Below.refl _ _)
                      simp only [Act.put, List.setIfInBounds_toArray, List.set_cons_zero, List.set_cons_succ, List.nil_append, List.cons_append]
                      refine inv_val (i := 20) (by kernel_rfl) rfl rfl (fun w1 hS hd K hK => ?_) ?_
                      · (try dsimp only at hS); go_simp; exact hK.out _ _ (by simp only [Act.put, List.setIfInBounds_toArray, List.set_cons_zero, List.set_cons_succ, List.nil_append, List.cons_append]; rfl) (Below.refl _ _)
                      simp only [Act.put, List.setIfInBounds_toArray, List.set_cons_zero, List.set_cons_succ, List.nil_append, List.cons_append]
                      refine inv_val (i := 21) (by kernel_rfl) rfl rfl (fun w1 hS hd K hK => ?_) ?_
                      · (try dsimp only at hS); go_simp; exact hK.out _ _ (by simp only [Act.put, List.setIfInBounds_toArray, List.set_cons_zero, List.set_cons_succ, List.nil_append, List.cons_append]; rfl) (Below.refl _ _)
                      simp only [Act.put, List.setIfInBounds_toArray, List.set_cons_zero, List.set_cons_succ, List.nil_append, List.cons_append]
                      refine inv_val (i := 22) (by kernel_rfl) rfl rfl (fun w1 hS hd K hK => ?_) ?_
                      · (try dsimp only at hS); go_simp; exact hK.out _ _ (by simp only [Act.put, List.setIfInBounds_toArray, List.set_cons_zero, List.set_cons_succ, List.nil_append, List.cons_append]; rfl) (Below.refl _ _)
                      simp only [Act.put, List.setIfInBounds_toArray, List.set_cons_zero, List.set_cons_succ, List.nil_append, List.cons_append]
                      refine inv_val (i := 23) (by kernel_rfl) rfl rfl (fun w1 hS hd K hK => ?_) ?_
                      · (try dsimp only at hS); go_simp; exact hK.out _ _ (by simp only [Act.put, List.setIfInBounds_toArray, List.set_cons_zero, List.set_cons_succ, List.nil_append, List.cons_append]; rfl) (Below.refl _ _)
                      simp only [Act.put, List.setIfInBounds_toArray, List.set_cons_zero, List.set_cons_succ, List.nil_append, List.cons_append]
                      refine inv_val (i := 24) (by kernel_rfl) rfl rfl (fun w1 hS hd K hK => ?_) ?_
                      · (try dsimp only at hS); go_simp; exact hK.out _ _ (by simp only [Act.put, List.setIfInBounds_toArray, List.set_cons_zero, List.set_cons_succ, List.nil_append, List.cons_append]; rfl) (Below.refl _ _)
                      simp only [Act.put, List.setIfInBounds_toArray, List.set_cons_zero, List.set_cons_succ, List.nil_append, List.cons_append]
                      refine inv_val (i := 25) (by kernel_rfl) rfl rfl (fun w1 hS hd K hK => ?_) ?_
                      · (try dsimp only at hS); go_simp; exact hK.out _ _ (by simp only [Act.put, List.setIfInBounds_toArray, List.set_cons_zero, List.set_cons_succ, List.nil_append, List.cons_append]; rfl) (Below.refl _ _)
                      simp only [Act.put, List.setIfInBounds_toArray, List.set_cons_zero, List.set_cons_succ, List.nil_append, List.cons_append]
                      refine inv_val (i := 26) (by kernel_rfl) rfl rfl (fun w1 hS hd K hK => ?_) ?_
                      · (try dsimp only at hS); go_simp; exact hK.out _ _ (by simp only [Act.put, List.setIfInBounds_toArray, List.set_cons_zero, List.set_cons_succ, List.nil_append, List.cons_append]; rfl) (Below.refl _ _)
                      simp only [Act.put, List.setIfInBounds_toArray, List.set_cons_zero, List.set_cons_succ, List.nil_append, List.cons_append]
                      refine inv_val (i := 27) (by kernel_rfl) rfl rfl (fun w1 hS hd K hK => ?_) ?_
                      · (try dsimp only at hS); go_simp; exact hK.out _ _ (by simp only [Act.put, List.setIfInBounds_toArray, List.set_cons_zero, List.set_cons_succ, List.nil_append, List.cons_append]; rfl) (Below.refl _ _)
                      simp only [Act.put, List.setIfInBounds_toArray, List.set_cons_zero, List.set_cons_succ, List.nil_append, List.cons_append]
                      refine inv_val (i := 28) (by kernel_rfl) rfl rfl (fun w1 hS hd K hK => ?_) ?_
                      · (try dsimp only at hS); go_simp; exact hK.out _ _ (by simp only [Act.put, List.setIfInBounds_toArray, List.set_cons_zero, List.set_cons_succ, List.nil_append, List.cons_append]; rfl) (Below.refl _ _)
                      simp only [Act.put, List.setIfInBounds_toArray, List.set_cons_zero, List.set_cons_succ, List.nil_append, List.cons_append]
                      refine inv_val (i := 29) (by kernel_rfl) rfl rfl (fun w1 hS hd K hK => ?_) ?_
                      · (try dsimp only at hS); go_simp; exact hK.out _ _ (by simp only [Act.put, List.setIfInBounds_toArray, List.set_cons_zero, List.set_cons_succ, List.nil_append, List.cons_append]; rfl) (Below.refl _ _)
                      simp only [Act.put, List.setIfInBounds_toArray, List.set_cons_zero, List.set_cons_succ, List.nil_append, List.cons_append]
                      refine inv_val (i := 30) (by kernel_rfl) rfl rfl (fun w1 hS hd K hK => ?_) ?_
                      · (try dsimp only at hS); go_simp; exact hK.out _ _ (by simp only [Act.put, List.setIfInBounds_toArray, List.set_cons_zero, List.set_cons_succ, List.nil_append, List.cons_append]; rfl) (Below.refl _ _)
                      simp only [Act.put, List.setIfInBounds_toArray, List.set_cons_zero, List.set_cons_succ, List.nil_append, List.cons_append]
                      refine inv_val (i := 31) (by kernel_rfl) rfl rfl (fun w1 hS hd K hK => ?_) ?_
                      · (try dsimp only at hS); go_simp; exact hK.out _ _ (by simp only [Act.put, List.setIfInBounds_toArray, List.set_cons_zero, List.set_cons_succ, List.nil_append, List.cons_append]; rfl) (Below.refl _ _)
                      simp only [Act.put, List.setIfInBounds_toArray, List.set_cons_zero, List.set_cons_succ, List.nil_append, List.cons_append]
                      refine inv_val (i := 32) (by kernel_rfl) rfl rfl (fun w1 hS hd K hK => ?_) ?_
                      · (try dsimp only at hS); go_simp; exact hK.out _ _ (by simp only [Act.put, List.setIfInBounds_toArray, List.set_cons_zero, List.set_cons_succ, List.nil_append, List.cons_append]; rfl) (Below.refl _ _)
                      simp only [Act.put, List.setIfInBounds_toArray, List.set_cons_zero, List.set_cons_succ, List.nil_append, List.cons_append]
                      refine inv_val (i := 33) (by kernel_rfl) rfl rfl (fun w1 hS hd K hK => ?_) ?_
                      · (try dsimp only at hS); go_simp; exact hK.out _ _ (by simp only [Act.put, List.setIfInBounds_toArray, List.set_cons_zero, List.set_cons_succ, List.nil_append, List.cons_append]; rfl) (Below.refl _ _)
                      simp only [Act.put, List.setIfInBounds_toArray, List.set_cons_zero, List.set_cons_succ, List.nil_append, List.cons_append]
                      refine inv_val (i := 34) (by kernel_rfl) rfl rfl (fun w1 hS hd K hK => ?_) ?_
                      · (try dsimp only at hS); go_simp; exact hK.out _ _ (by simp only [Act.put, List.setIfInBounds_toArray, List.set_cons_zero, List.set_cons_succ, List.nil_append, List.cons_append]; rfl) (Below.refl _ _)
                      simp only [Act.put, List.setIfInBounds_toArray, List.set_cons_zero, List.set_cons_succ, List.nil_append, List.cons_append]
                      refine inv_val (i := 35) (by kernel_rfl) rfl rfl (fun w1 hS hd K hK => ?_) ?_
                      · (try dsimp only at hS); go_simp; exact hK.out _ _ (by simp only [Act.put, List.setIfInBounds_toArray, List.set_cons_zero, List.set_cons_succ, List.nil_append, List.cons_append]; rfl) (Below.refl _ _)
                      simp only [Act.put, List.setIfInBounds_toArray, List.set_cons_zero, List.set_cons_succ, List.nil_append, List.cons_append]
                      refine inv_val (i := 36) (by kernel_rfl) rfl rfl (fun w1 hS hd K hK => ?_) ?_
                      · (try dsimp only at hS); go_simp; exact hK.out _ _ (by simp only [Act.put, List.setIfInBounds_toArray, List.set_cons_zero, List.set_cons_succ, List.nil_append, List.cons_append]; rfl) (Below.refl _ _)
                      simp only [Act.put, List.setIfInBounds_toArray, List.set_cons_zero, List.set_cons_succ, List.nil_append, List.cons_append]
                      refine inv_val (i := 37) (by kernel_rfl) rfl rfl (fun w1 hS hd K hK => ?_) ?_
                      · (try dsimp only at hS); go_simp; exact hK.out _ _ (by simp only [Act.put, List.setIfInBounds_toArray, List.set_cons_zero, List.set_cons_succ, List.nil_append, List.cons_append]; rfl) (Below.refl _ _)
                      simp only [Act.put, List.setIfInBounds_toArray, List.set_cons_zero, List.set_cons_succ, List.nil_append, List.cons_append]
                      refine inv_val (i := 38) (by kernel_rfl) rfl rfl (fun w1 hS hd K hK => ?_) ?_
                      · (try dsimp only at hS); go_simp; exact hK.out _ _ (by simp only [Act.put, List.setIfInBounds_toArray, List.set_cons_zero, List.set_cons_succ, List.nil_append, List.cons_append]; rfl) (Below.refl _ _)
                      simp only [Act.put, List.setIfInBounds_toArray, List.set_cons_zero, List.set_cons_succ, List.nil_append, List.cons_append]
                      refine inv_val (i := 39) (by kernel_rfl) rfl rfl (fun w1 hS hd K hK => ?_) ?_
                      · (try dsimp only at hS); go_simp; exact hK.out _ _ (by simp only [Act.put, List.setIfInBounds_toArray, List.set_cons_zero, List.set_cons_succ, List.nil_append, List.cons_append]; rfl) (Below.refl _ _)
                      simp only [Act.put, List.setIfInBounds_toArray, List.set_cons_zero, List.set_cons_succ, List.nil_append, List.cons_append]
                      refine inv_val (i := 40) (by kernel_rfl) rfl rfl (fun w1 hS hd K hK => ?_) ?_
                      · (try dsimp only at hS); go_simp; exact hK.out _ _ (by simp only [Act.put, List.setIfInBounds_toArray, List.set_cons_zero, List.set_cons_succ, List.nil_append, List.cons_append]; rfl) (Below.refl _ _)
                      simp only [Act.put, List.setIfInBounds_toArray, List.set_cons_zero, List.set_cons_succ, List.nil_append, List.cons_append]
                      refine inv_val (i := 41) (by kernel_rfl) rfl rfl (fun w1 hS hd K hK => ?_) ?_
                      · (try dsimp only at hS); go_simp; exact hK.out _ _ (by simp only [Act.put, List.setIfInBounds_toArray, List.set_cons_zero, List.set_cons_succ, List.nil_append, List.cons_append]; rfl) (Below.refl _ _)
                      simp only [Act.put, List.setIfInBounds_toArray, List.set_cons_zero, List.set_cons_succ, List.nil_append, List.cons_append]
                      refine inv_val (i := 42) (by kernel_rfl) rfl rfl (fun w1 hS hd K hK => ?_) ?_
                      · (try dsimp only at hS); go_simp; exact hK.out _ _ (by simp only [Act.put, List.setIfInBounds_toArray, List.set_cons_zero, List.set_cons_succ, List.nil_append, List.cons_append]; rfl) (Below.refl _ _)
                      simp only [Act.put, List.setIfInBounds_toArray, List.set_cons_zero, List.set_cons_succ, List.nil_append, List.cons_append]
                      refine inv_val (i := 43) (by kernel_rfl) rfl rfl (fun w1 hS hd K hK => ?_) ?_
                      · (try dsimp only at hS); go_simp; refine (from_any _ ra ti _ hS.1.2.1.lies NA.out KT.out).mono ?_; rintro e w2 ⟨rfl, hb⟩; rw [← HFA.out]; exact hK.out _ _ (by simp only [Act.put, List.setIfInBounds_toArray, List.set_cons_zero, List.set_cons_succ, List.nil_append, List.cons_append]; rfl) hb
                      simp only [Act.put, List.setIfInBounds_toArray, List.set_cons_zero, List.set_cons_succ, List.nil_append, List.cons_append]
                      refine inv_val (i := 44) (by kernel_rfl) rfl rfl (fun w1 hS hd K hK => ?_) ?_
                      · (try dsimp only at hS); go_simp; exact hK.out _ _ (by simp only [Act.put, List.setIfInBounds_toArray, List.set_cons_zero, List.set_cons_succ, List.nil_append, List.cons_append]; rfl) (Below.refl _ _)
                      simp only [Act.put, List.setIfInBounds_toArray, List.set_cons_zero, List.set_cons_succ, List.nil_append, List.cons_append]
                      refine inv_val (i := 45) (by kernel_rfl) rfl rfl (fun w1 hS hd K hK => ?_) ?_
                      · (try dsimp only at hS); go_simp; exact hK.out _ _ (by simp only [Act.put, List.setIfInBounds_toArray, List.set_cons_zero, List.set_cons_succ, List.nil_append, List.cons_append]; rfl) (Below.refl _ _)
                      simp only [Act.put, List.setIfInBounds_toArray, List.set_cons_zero, List.set_cons_succ, List.nil_append, List.cons_append]
                      refine inv_val (i := 46) (by kernel_rfl) rfl rfl (fun w1 hS hd K hK => ?_) ?_
                      · (try dsimp only at hS); go_simp; exact hK.out _ _ (by simp only [Act.put, List.setIfInBounds_toArray, List.set_cons_zero, List.set_cons_succ, List.nil_append, List.cons_append]; rfl) (Below.refl _ _)
                      simp only [Act.put, List.setIfInBounds_toArray, List.set_cons_zero, List.set_cons_succ, List.nil_append, List.cons_append]
                      refine inv_val (i := 47) (by kernel_rfl) rfl rfl (fun w1 hS hd K hK => ?_) ?_
                      · (try dsimp only at hS); go_simp; exact hK.out _ _ (by simp only [Act.put, List.setIfInBounds_toArray, List.set_cons_zero, List.set_cons_succ, List.nil_append, List.cons_append]; rfl) (Below.refl _ _)
                      simp only [Act.put, List.setIfInBounds_toArray, List.set_cons_zero, List.set_cons_succ, List.nil_append, List.cons_append]
                      refine inv_val (i := 48) (by kernel_rfl) rfl rfl (fun w1 hS hd K hK => ?_) ?_
                      · (try dsimp only at hS); go_simp; exact hK.out _ _ (by simp only [Act.put, List.setIfInBounds_toArray, List.set_cons_zero, List.set_cons_succ, List.nil_append, List.cons_append]; rfl) (Below.refl _ _)
                      simp only [Act.put, List.setIfInBounds_toArray, List.set_cons_zero, List.set_cons_succ, List.nil_append, List.cons_append]
                      refine inv_val (i := 49) (by kernel_rfl) rfl rfl (fun w1 hS hd K hK => ?_) ?_
                      · (try dsimp only at hS); go_simp; exact hK.out _ _ (by simp only [Act.put, List.setIfInBounds_toArray, List.set_cons_zero, List.set_cons_succ, List.nil_append, List.cons_append]; rfl) (Below.refl _ _)
                      simp only [Act.put, List.setIfInBounds_toArray, List.set_cons_zero, List.set_cons_succ, List.nil_append, List.cons_append]
                      refine inv_val (i := 50) (by kernel_rfl) rfl rfl (fun w1 hS hd K hK => ?_) ?_
                      · (try dsimp only at hS); go_simp; exact hK.out _ _ (by simp only [Act.put, List.setIfInBounds_toArray, List.set_cons_zero, List.set_cons_succ, List.nil_append, List.cons_append]; rfl) (Below.refl _ _)
                      simp only [Act.put, List.setIfInBounds_toArray, List.set_cons_zero, List.set_cons_succ, List.nil_append, List.cons_append]
                      refine inv_val (i := 51) (by kernel_rfl) rfl rfl (fun w1 hS hd K hK => ?_) ?_
                      · (try dsimp only at hS); go_simp; exact hK.out _ _ (by simp only [Act.put, List.setIfInBounds_toArray, List.set_cons_zero, List.set_cons_succ, List.nil_append, List.cons_append]; rfl) (Below.refl _ _)
                      simp only [Act.put, List.setIfInBounds_toArray, List.set_cons_zero, List.set_cons_succ, List.nil_append, List.cons_append]
                      refine inv_done (by kernel_rfl) (fun w10 hS hd => ?_)
                      have HF10 := Lib.hid (chain HB.out hS.1.1)
                      clear hS hd c0 c1 c2 c3 d0 d1 d2 d3 p0 p1 hz9
                      go_wp2
                      go_ret
                      exact ⟨rfl, HF10.out⟩
                  · have hik2 : decide (k ≤ ti) = true := by simp; omega
                    cases is
                    · go_wp2_with fail
                      refine wp_region_inv (R := Blw) (S := (fun w' => (Below wr.heap.size wr w' ∧ RBox w' b1 xa xc xfa xfc ra ∧ RBox w' b2 ya yc yfa yfc rb) ∧ w'.cell? ⟨b1, 0, none⟩ = some (.int .i64 ra.now) ∧ w'.cell? ⟨b1, 1, none⟩ = some (.string ra.name) ∧ w'.cell? ⟨b1, 2, none⟩ = some (.slice xa ra.l.length xc) ∧ w'.cell? ⟨b1, 3, none⟩ = some (.slice xfa ra.fl.length xfc) ∧ w'.cell? ⟨b2, 0, none⟩ = some (.int .i64 rb.now) ∧ w'.cell? ⟨b2, 1, none⟩ = some (.string rb.name) ∧ w'.cell? ⟨b2, 2, none⟩ = some (.slice ya rb.l.length yc) ∧ w'.cell? ⟨b2, 3, none⟩ = some (.slice yfa rb.fl.length yfc) ∧ w'.cell? ⟨w.heap.size, 1, none⟩ = some (.slice (some ⟨b, o, none⟩) l.length pc) ∧ w'.cell? ⟨b, o + ti * 4 + 1, none⟩ = some (.int .i64 ev))) 52 (Spec.val ?_ :: Spec.val ?_ :: Spec.val ?_ :: Spec.val ?_ :: Spec.val ?_ :: Spec.val ?_ :: Spec.val ?_ :: Spec.val ?_ :: Spec.val ?_ :: Spec.val ?_ :: Spec.val ?_ :: Spec.val ?_ :: Spec.val ?_ :: Spec.val ?_ :: Spec.val ?_ :: Spec.val ?_ :: Spec.val ?_ :: Spec.val ?_ :: Spec.val ?_ :: Spec.val ?_ :: Spec.val ?_ :: Spec.val ?_ :: Spec.val ?_ :: Spec.val ?_ :: Spec.val ?_ :: Spec.val ?_ :: Spec.val ?_ :: Spec.val ?_ :: Spec.val ?_ :: Spec.val ?_ :: Spec.val ?_ :: Spec.val ?_ :: Spec.val ?_ :: Spec.val ?_ :: Spec.val ?_ :: Spec.val ?_ :: Spec.val ?_ :: Spec.val ?_ :: Spec.val ?_ :: Spec.val ?_ :: Spec.val ?_ :: Spec.val ?_ :: Spec.val ?_ :: Spec.val ?_ :: Spec.val ?_ :: Spec.val ?_ :: Spec.val ?_ :: Spec.val ?_ :: Spec.val ?_ :: Spec.val ?_ :: Spec.val ?_ :: Spec.val ?_ :: []) (by kernel_rfl) (by kernel_rfl) rfl (fun w1 w2 h hb => ⟨⟨chain h.1.1 hb, h.1.2.1.step hb, h.1.2.2.step hb⟩, cell_step h.2.1 hb, cell_step h.2.2.1 hb, cell_step h.2.2.2.1 hb, cell_step h.2.2.2.2.1 hb, cell_step h.2.2.2.2.2.1 hb, cell_step h.2.2.2.2.2.2.1 hb, cell_step h.2.2.2.2.2.2.2.1 hb, cell_step h.2.2.2.2.2.2.2.2.1 hb, cell_step h.2.2.2.2.2.2.2.2.2.1 hb, cell_step h.2.2.2.2.2.2.2.2.2.2 hb⟩) (⟨⟨HB9.out.drew, HX9.out.step (Below.refl _ _).drew, HY9.out.step (Below.refl _ _).drew⟩, c0, c1, c2, c3, d0, d1, d2, d3, p1, hz9⟩) ?hm10
                      case' hm10 => skip
                      refine inv_val (i := 0) (by kernel_rfl) rfl rfl (fun w1 hS hd K hK => ?_) ?_
                      · (try dsimp only at hS); go_simp; refine (alive_any _).mono ?_; rintro e w2 ⟨rfl, hb⟩; exact hK.out _ _ (by simp only [Act.put, List.setIfInBounds_toArray, List.set_cons_zero, List.set_cons_succ, List.nil_append, List.cons_append]; rfl) hb
                      simp only [Act.put, List.setIfInBounds_toArray, List.set_cons_zero, List.set_cons_succ, List.nil_append, List.cons_append]
                      refine inv_val (i := 1) (by kernel_rfl) rfl rfl (fun w1 hS hd K hK => ?_) ?_
                      · (try dsimp only at hS); go_simp; exact hK.out _ _ (by simp only [Act.put, List.setIfInBounds_toArray, List.set_cons_zero, List.set_cons_succ, List.nil_append, List.cons_append]; rfl) (Below.refl _ _)
                      simp only [Act.put, List.setIfInBounds_toArray, List.set_cons_zero, List.set_cons_succ, List.nil_append, List.cons_append]
                      refine inv_val (i := 2) (by kernel_rfl) rfl rfl (fun w1 hS hd K hK => ?_) ?_
                      · (try dsimp only at hS); go_simp; exact hK.out _ _ (by simp only [Act.put, List.setIfInBounds_toArray, List.set_cons_zero, List.set_cons_succ, List.nil_append, List.cons_append]; rfl) (Below.refl _ _)
                      simp only [Act.put, List.setIfInBounds_toArray, List.set_cons_zero, List.set_cons_succ, List.nil_append, List.cons_append]
                      refine inv_val (i := 3) (by kernel_rfl) rfl rfl (fun w1 hS hd K hK => ?_) ?_
                      · (try dsimp only at hS); go_simp; exact hK.out _ _ (by simp only [Act.put, List.setIfInBounds_toArray, List.set_cons_zero, List.set_cons_succ, List.nil_append, List.cons_append]; rfl) (Below.refl _ _)
                      simp only [Act.put, List.setIfInBounds_toArray, List.set_cons_zero, List.set_cons_succ, List.nil_append, List.cons_append]
                      refine inv_val (i := 4) (by kernel_rfl) rfl rfl (fun w1 hS hd K hK => ?_) ?_
                      · (try dsimp only at hS); go_simp; refine (from_any _ ra ti _ hS.1.2.1.lies NA.out KT.out).mono ?_; rintro e w2 ⟨rfl, hb⟩; rw [← HFA.out]; exact hK.out _ _ (by simp only [Act.put, List.setIfInBounds_toArray, List.set_cons_zero, List.set_cons_succ, List.nil_append, List.cons_append]; rfl) hb
                      simp only [Act.put, List.setIfInBounds_toArray, List.set_cons_zero, List.set_cons_succ, List.nil_append, List.cons_append]
                      refine inv_val (i := 5) (by kernel_rfl) rfl rfl (fun w1 hS hd K hK => ?_) ?_
                      · (try dsimp only at hS); go_simp; exact hK.out _ _ (by simp only [Act.put, List.setIfInBounds_toArray, List.set_cons_zero, List.set_cons_succ, List.nil_append, List.cons_append]; rfl) (Below.refl _ _)
                      simp only [Act.put, List.setIfInBounds_toArray, List.set_cons_zero, List.set_cons_succ, List.nil_append, List.cons_append]
                      refine inv_val (i := 6) (by kernel_rfl) rfl rfl (fun w1 hS hd K hK => ?_) ?_
                      · (try dsimp only at hS); go_simp; exact hK.out _ _ (by simp only [Act.put, List.setIfInBounds_toArray, List.set_cons_zero, List.set_cons_succ, List.nil_append, List.cons_append]; rfl) (Below.refl _ _)
                      simp only [Act.put, List.setIfInBounds_toArray, List.set_cons_zero, List.set_cons_succ, List.nil_append, List.cons_append]
                      refine inv_val (i := 7) (by kernel_rfl) rfl rfl (fun w1 hS hd K hK => ?_) ?_
                      · (try dsimp only at hS); go_simp; refine (from_any _ rb ti _ hS.1.2.2.lies NB.out KT.out).mono ?_; rintro e w2 ⟨rfl, hb⟩; rw [← HFB.out]; exact hK.out _ _ (by simp only [Act.put, List.setIfInBounds_toArray, List.set_cons_zero, List.set_cons_succ, List.nil_append, List.cons_append]; rfl) hb
                      simp only [Act.put, List.setIfInBounds_toArray, List.set_cons_zero, List.set_cons_succ, List.nil_append, List.cons_append]
                      refine inv_val (i := 8) (by kernel_rfl) rfl rfl (fun w1 hS hd K hK => ?_) ?_
                      · (try dsimp only at hS); go_simp; exact hK.out _ _ (by simp only [Act.put, List.setIfInBounds_toArray, List.set_cons_zero, List.set_cons_succ, List.nil_append, List.cons_append]; rfl) (Below.refl _ _)
                      simp only [Act.put, List.setIfInBounds_toArray, List.set_cons_zero, List.set_cons_succ, List.nil_append, List.cons_append]
                      refine inv_val (i := 9) (by kernel_rfl) rfl rfl (fun w1 hS hd K hK => ?_) ?_
                      · (try dsimp only at hS); go_simp; exact hK.out _ _ (by simp only [Act.put, List.setIfInBounds_toArray, List.set_cons_zero, List.set_cons_succ, List.nil_append, List.cons_append]; rfl) (Below.refl _ _)
                      simp only [Act.put, List.setIfInBounds_toArray, List.set_cons_zero, List.set_cons_succ, List.nil_append, List.cons_append]
                      refine inv_val (i := 10) (by kernel_rfl) rfl rfl (fun w1 hS hd K hK => ?_) ?_
                      · (try dsimp only at hS); go_simp; exact hK.out _ _ (by simp only [Act.put, List.setIfInBounds_toArray, List.set_cons_zero, List.set_cons_succ, List.nil_append, List.cons_append]; rfl) (Below.refl _ _)
                      simp only [Act.put, List.setIfInBounds_toArray, List.set_cons_zero, List.set_cons_succ, List.nil_append, List.cons_append]
                      refine inv_val (i := 11) (by kernel_rfl) rfl rfl (fun w1 hS hd K hK => ?_) ?_
                      · (try dsimp only at hS); go_simp; exact hK.out _ _ (by simp only [Act.put, List.setIfInBounds_toArray, List.set_cons_zero, List.set_cons_succ, List.nil_append, List.cons_append]; rfl) (Below.refl _ _)
                      simp only [Act.put, List.setIfInBounds_toArray, List.set_cons_zero, List.set_cons_succ, List.nil_append, List.cons_append]
                      refine inv_val (i := 12) (by kernel_rfl) rfl rfl (fun w1 hS hd K hK => ?_) ?_
                      · (try dsimp only at hS); go_simp; exact hK.out _ _ (by simp only [Act.put, List.setIfInBounds_toArray, List.set_cons_zero, List.set_cons_succ, List.nil_append, List.cons_append]; rfl) (Below.refl _ _)
                      simp only [Act.put, List.setIfInBounds_toArray, List.set_cons_zero, List.set_cons_succ, List.nil_append, List.cons_append]
                      refine inv_val (i := 13) (by kernel_rfl) rfl rfl (fun w1 hS hd K hK => ?_) ?_
                      · (try dsimp only at hS); go_simp; refine (from_any _ ra ti _ hS.1.2.1.lies NA.out KT.out).mono ?_; rintro e w2 ⟨rfl, hb⟩; rw [← HFA.out]; exact hK.out _ _ (by simp only [Act.put, List.setIfInBounds_toArray, List.set_cons_zero, List.set_cons_succ, List.nil_append, List.cons_append]; rfl) hb
                      simp only [Act.put, List.setIfInBounds_toArray, List.set_cons_zero, List.set_cons_succ, List.nil_append, List.cons_append]
                      refine inv_val (i := 14) (by kernel_rfl) rfl rfl (fun w1 hS hd K hK => ?_) ?_
                      · (try dsimp only at hS); go_simp; exact hK.out _ _ (by simp only [Act.put, List.setIfInBounds_toArray, List.set_cons_zero, List.set_cons_succ, List.nil_append, List.cons_append]; rfl) (Below.refl _ _)
                      simp only [Act.put, List.setIfInBounds_toArray, List.set_cons_zero, List.set_cons_succ, List.nil_append, List.cons_append]
                      refine inv_val (i := 15) (by kernel_rfl) rfl rfl (fun w1 hS hd K hK => ?_) ?_
                      · (try dsimp only at hS); go_simp; exact hK.out _ _ (by simp only [Act.put, List.setIfInBounds_toArray, List.set_cons_zero, List.set_cons_succ, List.nil_append, List.cons_append]; rfl) (Below.refl _ _)
                      simp only [Act.put, List.setIfInBounds_toArray, List.set_cons_zero, List.set_cons_succ, List.nil_append, List.cons_append]
                      refine inv_val (i := 16) (by kernel_rfl) rfl rfl (fun w1 hS hd K hK => ?_) ?_
                      · (try dsimp only at hS); go_simp; exact hK.out _ _ (by simp only [Act.put, List.setIfInBounds_toArray, List.set_cons_zero, List.set_cons_succ, List.nil_append, List.cons_append]; rfl) (Below.refl _ _)
                      simp only [Act.put, List.setIfInBounds_toArray, List.set_cons_zero, List.set_cons_succ, List.nil_append, List.cons_append]
                      refine inv_val (i := 17) (by kernel_rfl) rfl rfl (fun w1 hS hd K hK => ?_) ?_
                      · (try dsimp only at hS); go_simp; exact hK.out _ _ (by simp only [Act.put, List.setIfInBounds_toArray, List.set_cons_zero, List.set_cons_succ, List.nil_append, List.cons_append]; rfl) (Below.refl _ _)
                      simp only [Act.put, List.setIfInBounds_toArray, List.set_cons_zero, List.set_cons_succ, List.nil_append, List.cons_append]
                      refine inv_val (i := 18) (by kernel_rfl) rfl rfl (fun w1 hS hd K hK => ?_) ?_
                      · (try dsimp only at hS); go_simp; exact hK.out _ _ (by simp only [Act.put, List.setIfInBounds_toArray, List.set_cons_zero, List.set_cons_succ, List.nil_append, List.cons_append]; rfl) (Below.refl _ _)
                      simp only [Act.put, List.setIfInBounds_toArray, List.set_cons_zero, List.set_cons_succ, List.nil_append, List.cons_append]
                      refine inv_val (i := 19) (by kernel_rfl) rfl rfl (fun w1 hS hd K hK => ?_) ?_
                      · (try dsimp only at hS); go_simp; exact hK.out _ _ (by simp only [Act.put, List.setIfInBounds_toArray, List.set_cons_zero, List.set_cons_succ, List.nil_append, List.cons_append]; rfl) (Below.refl _ _)
                      simp only [Act.put, List.setIfInBounds_toArray, List.set_cons_zero, List.set_cons_succ, List.nil_append, List.cons_append]
                      refine inv_val (i := 20) (by kernel_rfl) rfl rfl (fun w1 hS hd K hK => ?_) ?_
                      · (try dsimp only at hS); go_simp; exact hK.out _ _ (by simp only [Act.put, List.setIfInBounds_toArray, List.set_cons_zero, List.set_cons_succ, List.nil_append, List.cons_append]; rfl) (Below.refl _ _)
                      simp only [Act.put, List.setIfInBounds_toArray, List.set_cons_zero, List.set_cons_succ, List.nil_append, List.cons_append]
                      refine inv_val (i := 21) (by kernel_rfl) rfl rfl (fun w1 hS hd K hK => ?_) ?_
                      · (try dsimp only at hS); go_simp; exact hK.out _ _ (by simp only [Act.put, List.setIfInBounds_toArray, List.set_cons_zero, List.set_cons_succ, List.nil_append, List.cons_append]; rfl) (Below.refl _ _)
                      simp only [Act.put, List.setIfInBounds_toArray, List.set_cons_zero, List.set_cons_succ, List.nil_append, List.cons_append]
                      refine inv_val (i := 22) (by kernel_rfl) rfl rfl (fun w1 hS hd K hK => ?_) ?_
                      · (try dsimp only at hS); go_simp; exact hK.out _ _ (by simp only [Act.put, List.setIfInBounds_toArray, List.set_cons_zero, List.set_cons_succ, List.nil_append, List.cons_append]; rfl) (Below.refl _ _)
                      simp only [Act.put, List.setIfInBounds_toArray, List.set_cons_zero, List.set_cons_succ, List.nil_append, List.cons_append]
                      refine inv_val (i := 23) (by kernel_rfl) rfl rfl (fun w1 hS hd K hK => ?_) ?_
                      · (try dsimp only at hS); go_simp; exact hK.out _ _ (by simp only [Act.put, List.setIfInBounds_toArray, List.set_cons_zero, List.set_cons_succ, List.nil_append, List.cons_append]; rfl) (Below.refl _ _)
                      simp only [Act.put, List.setIfInBounds_toArray, List.set_cons_zero, List.set_cons_succ, List.nil_append, List.cons_append]
                      refine inv_val (i := 24) (by kernel_rfl) rfl rfl (fun w1 hS hd K hK => ?_) ?_
                      · (try dsimp only at hS); go_simp; exact hK.out _ _ (by simp only [Act.put, List.setIfInBounds_toArray, List.set_cons_zero, List.set_cons_succ, List.nil_append, List.cons_append]; rfl) (Below.refl _ _)
                      simp only [Act.put, List.setIfInBounds_toArray, List.set_cons_zero, List.set_cons_succ, List.nil_append, List.cons_append]
                      refine inv_val (i := 25) (by kernel_rfl) rfl rfl (fun w1 hS hd K hK => ?_) ?_
                      · (try dsimp only at hS); go_simp; exact hK.out _ _ (by simp only [Act.put, List.setIfInBounds_toArray, List.set_cons_zero, List.set_cons_succ, List.nil_append, List.cons_append]; rfl) (Below.refl _ _)
                      simp only [Act.put, List.setIfInBounds_toArray, List.set_cons_zero, List.set_cons_succ, List.nil_append, List.cons_append]
                      refine inv_val (i := 26) (by kernel_rfl) rfl rfl (fun w1 hS hd K hK => ?_) ?_
                      · (try dsimp only at hS); go_simp; exact hK.out _ _ (by simp only [Act.put, List.setIfInBounds_toArray, List.set_cons_zero, List.set_cons_succ, List.nil_append, List.cons_append]; rfl) (Below.refl _ _)
                      simp only [Act.put, List.setIfInBounds_toArray, List.set_cons_zero, List.set_cons_succ, List.nil_append, List.cons_append]
                      refine inv_val (i := 27) (by kernel_rfl) rfl rfl (fun w1 hS hd K hK => ?_) ?_
                      · (try dsimp only at hS); go_simp; exact hK.out _ _ (by simp only [Act.put, List.setIfInBounds_toArray, List.set_cons_zero, List.set_cons_succ, List.nil_append, List.cons_append]; rfl) (Below.refl _ _)
                      simp only [Act.put, List.setIfInBounds_toArray, List.set_cons_zero, List.set_cons_succ, List.nil_append, List.cons_append]
                      refine inv_val (i := 28) (by kernel_rfl) rfl rfl (fun w1 hS hd K hK => ?_) ?_
                      · (try dsimp only at hS); go_simp; exact hK.out _ _ (by simp only [Act.put, List.setIfInBounds_toArray, List.set_cons_zero, List.set_cons_succ, List.nil_append, List.cons_append]; rfl) (Below.refl _ _)
                      simp only [Act.put, List.setIfInBounds_toArray, List.set_cons_zero, List.set_cons_succ, List.nil_append, List.cons_append]
                      refine inv_val (i := 29) (by kernel_rfl) rfl rfl (fun w1 hS hd K hK => ?_) ?_
                      · (try dsimp only at hS); go_simp; exact hK.out _ _ (by simp only [Act.put, List.setIfInBounds_toArray, List.set_cons_zero, List.set_cons_succ, List.nil_append, List.cons_append]; rfl) (Below.refl _ _)
                      simp only [Act.put, List.setIfInBounds_toArray, List.set_cons_zero, List.set_cons_succ, List.nil_append, List.cons_append]
                      refine inv_val (i := 30) (by kernel_rfl) rfl rfl (fun w1 hS hd K hK => ?_) ?_
                      · (try dsimp only at hS); go_simp; exact hK.out _ _ (by simp only [Act.put, List.setIfInBounds_toArray, List.set_cons_zero, List.set_cons_succ, List.nil_append, List.cons_append]; rfl) (Below.refl _ _)
                      simp only [Act.put, List.setIfInBounds_toArray, List.set_cons_zero, List.set_cons_succ, List.nil_append, List.cons_append]
                      refine inv_val (i := 31) (by kernel_rfl) rfl rfl (fun w1 hS hd K hK => ?_) ?_
                      · (try dsimp only at hS); go_simp; exact hK.out _ _ (by simp only [Act.put, List.setIfInBounds_toArray, List.set_cons_zero, List.set_cons_succ, List.nil_append, List.cons_append]; rfl) (Below.refl _ _)
                      simp only [Act.put, List.setIfInBounds_toArray, List.set_cons_zero, List.set_cons_succ, List.nil_append, List.cons_append]
                      refine inv_val (i := 32) (by kernel_rfl) rfl rfl (fun w1 hS hd K hK => ?_) ?_
                      · rw [if_neg (by simp [Region.wanted, yielded])]; exact hK.out _ _ (by rfl) (Below.refl _ _)
                      simp only [Act.put, List.setIfInBounds_toArray, List.set_cons_zero, List.set_cons_succ, List.nil_append, List.cons_append]
                      refine inv_val (i := 33) (by kernel_rfl) rfl rfl (fun w1 hS hd K hK => ?_) ?_
                      · (try dsimp only at hS); go_simp; exact hK.out _ _ (by simp only [Act.put, List.setIfInBounds_toArray, List.set_cons_zero, List.set_cons_succ, List.nil_append, List.cons_append]; rfl) (Below.refl _ _)
                      simp only [Act.put, List.setIfInBounds_toArray, List.set_cons_zero, List.set_cons_succ, List.nil_append, List.cons_append]
                      refine inv_val (i := 34) (by kernel_rfl) rfl rfl (fun w1 hS hd K hK => ?_) ?_
                      · (try dsimp only at hS); go_simp; exact hK.out _ _ (by simp only [Act.put, List.setIfInBounds_toArray, List.set_cons_zero, List.set_cons_succ, List.nil_append, List.cons_append]; rfl) (Below.refl _ _)
                      simp only [Act.put, List.setIfInBounds_toArray, List.set_cons_zero, List.set_cons_succ, List.nil_append, List.cons_append]
                      refine inv_val (i := 35) (by kernel_rfl) rfl rfl (fun w1 hS hd K hK => ?_) ?_
                      · (try dsimp only at hS); go_simp; exact hK.out _ _ (by simp only [Act.put, List.setIfInBounds_toArray, List.set_cons_zero, List.set_cons_succ, List.nil_append, List.cons_append]; rfl) (Below.refl _ _)
                      simp only [Act.put, List.setIfInBounds_toArray, List.set_cons_zero, List.set_cons_succ, List.nil_append, List.cons_append]
                      refine inv_val (i := 36) (by kernel_rfl) rfl rfl (fun w1 hS hd K hK => ?_) ?_
                      · (try dsimp only at hS); go_simp; exact hK.out _ _ (by simp only [Act.put, List.setIfInBounds_toArray, List.set_cons_zero, List.set_cons_succ, List.nil_append, List.cons_append]; rfl) (Below.refl _ _)
                      simp only [Act.put, List.setIfInBounds_toArray, List.set_cons_zero, List.set_cons_succ, List.nil_append, List.cons_append]
                      refine inv_val (i := 37) (by kernel_rfl) rfl rfl (fun w1 hS hd K hK => ?_) ?_
                      · (try dsimp only at hS); go_simp; exact hK.out _ _ (by simp only [Act.put, List.setIfInBounds_toArray, List.set_cons_zero, List.set_cons_succ, List.nil_append, List.cons_append]; rfl) (Below.refl _ _)
                      simp only [Act.put, List.setIfInBounds_toArray, List.set_cons_zero, List.set_cons_succ, List.nil_append, List.cons_append]
                      refine inv_val (i := 38) (by kernel_rfl) rfl rfl (fun w1 hS hd K hK => ?_) ?_
                      · (try dsimp only at hS); go_simp; exact hK.out _ _ (by simp only [Act.put, List.setIfInBounds_toArray, List.set_cons_zero, List.set_cons_succ, List.nil_append, List.cons_append]; rfl) (Below.refl _ _)
                      simp only [Act.put, List.setIfInBounds_toArray, List.set_cons_zero, List.set_cons_succ, List.nil_append, List.cons_append]
                      refine inv_val (i := 39) (by kernel_rfl) rfl rfl (fun w1 hS hd K hK => ?_) ?_
                      · (try dsimp only at hS); go_simp; exact hK.out _ _ (by simp only [Act.put, List.setIfInBounds_toArray, List.set_cons_zero, List.set_cons_succ, List.nil_append, List.cons_append]; rfl) (Below.refl _ _)
                      simp only [Act.put, List.setIfInBounds_toArray, List.set_cons_zero, List.set_cons_succ, List.nil_append, List.cons_append]
                      refine inv_val (i := 40) (by kernel_rfl) rfl rfl (fun w1 hS hd K hK => ?_) ?_
                      · (try dsimp only at hS); go_simp; exact hK.out _ _ (by simp only [Act.put, List.setIfInBounds_toArray, List.set_cons_zero, List.set_cons_succ, List.nil_append, List.cons_append]; rfl) (Below.refl _ _)
                      simp only [Act.put, List.setIfInBounds_toArray, List.set_cons_zero, List.set_cons_succ, List.nil_append, List.cons_append]
                      refine inv_val (i := 41) (by kernel_rfl) rfl rfl (fun w1 hS hd K hK => ?_) ?_
                      · rw [if_neg (by simp [Region.wanted, yielded])]; exact hK.out _ _ (by rfl) (Below.refl _ _)
                      simp only [Act.put, List.setIfInBounds_toArray, List.set_cons_zero, List.set_cons_succ, List.nil_append, List.cons_append]
                      refine inv_val (i := 42) (by kernel_rfl) rfl rfl (fun w1 hS hd K hK => ?_) ?_
                      · rw [if_neg (by simp [Region.wanted, yielded])]; exact hK.out _ _ (by rfl) (Below.refl _ _)
                      simp only [Act.put, List.setIfInBounds_toArray, List.set_cons_zero, List.set_cons_succ, List.nil_append, List.cons_append]
                      refine inv_val (i := 43) (by kernel_rfl) rfl rfl (fun w1 hS hd K hK => ?_) ?_
                      · rw [if_neg (by simp [Region.wanted, yielded])]; exact hK.out _ _ (by rfl) (Below.refl _ _)
                      simp only [Act.put, List.setIfInBounds_toArray, List.set_cons_zero, List.set_cons_succ, List.nil_append, List.cons_append]
                      refine inv_val (i := 44) (by kernel_rfl) rfl rfl (fun w1 hS hd K hK => ?_) ?_
                      · rw [if_neg (by simp [Region.wanted, yielded])]; exact hK.out _ _ (by rfl) (Below.refl _ _)
                      simp only [Act.put, List.setIfInBounds_toArray, List.set_cons_zero, List.set_cons_succ, List.nil_append, List.cons_append]
                      refine inv_val (i := 45) (by kernel_rfl) rfl rfl (fun w1 hS hd K hK => ?_) ?_
                      · rw [if_neg (by simp [Region.wanted, yielded])]; exact hK.out _ _ (by rfl) (Below.refl _ _)
                      simp only [Act.put, List.setIfInBounds_toArray, List.set_cons_zero, List.set_cons_succ, List.nil_append, List.cons_append]
                      refine inv_val (i := 46) (by kernel_rfl) rfl rfl (fun w1 hS hd K hK => ?_) ?_
                      · rw [if_neg (by simp [Region.wanted, yielded])]; exact hK.out _ _ (by rfl) (Below.refl _ _)
                      simp only [Act.put, List.setIfInBounds_toArray, List.set_cons_zero, List.set_cons_succ, List.nil_append, List.cons_append]
                      refine inv_val (i := 47) (by kernel_rfl) rfl rfl (fun w1 hS hd K hK => ?_) ?_
                      · rw [if_neg (by simp [Region.wanted, yielded])]; exact hK.out _ _ (by rfl) (Below.refl _ _)
                      simp only [Act.put, List.setIfInBounds_toArray, List.set_cons_zero, List.set_cons_succ, List.nil_append, List.cons_append]
                      refine inv_val (i := 48) (by kernel_rfl) rfl rfl (fun w1 hS hd K hK => ?_) ?_
                      · rw [if_neg (by simp [Region.wanted, yielded])]; exact hK.out _ _ (by rfl) (Below.refl _ _)
                      simp only [Act.put, List.setIfInBounds_toArray, List.set_cons_zero, List.set_cons_succ, List.nil_append, List.cons_append]
                      refine inv_val (i := 49) (by kernel_rfl) rfl rfl (fun w1 hS hd K hK => ?_) ?_
                      · (try dsimp only at hS); go_simp; exact hK.out _ _ (by simp only [Act.put, List.setIfInBounds_toArray, List.set_cons_zero, List.set_cons_succ, List.nil_append, List.cons_append]; rfl) (Below.refl _ _)
                      simp only [Act.put, List.setIfInBounds_toArray, List.set_cons_zero, List.set_cons_succ, List.nil_append, List.cons_append]
                      refine inv_val (i := 50) (by kernel_rfl) rfl rfl (fun w1 hS hd K hK => ?_) ?_
                      · (try dsimp only at hS); go_simp; exact hK.out _ _ (by simp only [Act.put, List.setIfInBounds_toArray, List.set_cons_zero, List.set_cons_succ, List.nil_append, List.cons_append]; rfl) (Below.refl _ _)
                      simp only [Act.put, List.setIfInBounds_toArray, List.set_cons_zero, List.set_cons_succ, List.nil_append, List.cons_append]
                      refine inv_val (i := 51) (by kernel_rfl) rfl rfl (fun w1 hS hd K hK => ?_) ?_
                      · (try dsimp only at hS); go_simp; exact hK.out _ _ (by simp only [Act.put, List.setIfInBounds_toArray, List.set_cons_zero, List.set_cons_succ, List.nil_append, List.cons_append]; rfl) (Below.refl _ _)
                      simp only [Act.put, List.setIfInBounds_toArray, List.set_cons_zero, List.set_cons_succ, List.nil_append, List.cons_append]
                      refine inv_done (by kernel_rfl) (fun w10 hS hd => ?_)
                      have HF10 := Lib.hid (chain HB.out hS.1.1)
                      clear hS hd c0 c1 c2 c3 d0 d1 d2 d3 p0 p1 hz9
                      go_wp2
                      go_ret
                      exact ⟨rfl, HF10.out⟩
                    · have hwas := HR5.out rfl
                      subst hwas
                      go_wp2_with fail
                      refine wp_region_inv (R := Blw) (S := (fun w' => (Below wr.heap.size wr w' ∧ RBox w' b1 xa xc xfa xfc ra ∧ RBox w' b2 ya yc yfa yfc rb) ∧ w'.cell? ⟨b1, 0, none⟩ = some (.int .i64 ra.now) ∧ w'.cell? ⟨b1, 1, none⟩ = some (.string ra.name) ∧ w'.cell? ⟨b1, 2, none⟩ = some (.slice xa ra.l.length xc) ∧ w'.cell? ⟨b1, 3, none⟩ = some (.slice xfa ra.fl.length xfc) ∧ w'.cell? ⟨b2, 0, none⟩ = some (.int .i64 rb.now) ∧ w'.cell? ⟨b2, 1, none⟩ = some (.string rb.name) ∧ w'.cell? ⟨b2, 2, none⟩ = some (.slice ya rb.l.length yc) ∧ w'.cell? ⟨b2, 3, none⟩ = some (.slice yfa rb.fl.length yfc) ∧ w'.cell? ⟨w.heap.size, 1, none⟩ = some (.slice (some ⟨b, o, none⟩) l.length pc) ∧ w'.cell? ⟨b, o + ti * 4 + 1, none⟩ = some (.int .i64 ev))) 52 (Spec.val ?_ :: Spec.val ?_ :: Spec.val ?_ :: Spec.val ?_ :: Spec.val ?_ :: Spec.val ?_ :: Spec.val ?_ :: Spec.val ?_ :: Spec.val ?_ :: Spec.val ?_ :: Spec.val ?_ :: Spec.val ?_ :: Spec.val ?_ :: Spec.val ?_ :: Spec.val ?_ :: Spec.val ?_ :: Spec.val ?_ :: Spec.val ?_ :: Spec.val ?_ :: Spec.val ?_ :: Spec.val ?_ :: Spec.val ?_ :: Spec.val ?_ :: Spec.val ?_ :: Spec.val ?_ :: Spec.val ?_ :: Spec.val ?_ :: Spec.val ?_ :: Spec.val ?_ :: Spec.val ?_ :: Spec.val ?_ :: Spec.val ?_ :: Spec.val ?_ :: Spec.val ?_ :: Spec.val ?_ :: Spec.val ?_ :: Spec.val ?_ :: Spec.val ?_ :: Spec.val ?_ :: Spec.val ?_ :: Spec.val ?_ :: Spec.val ?_ :: Spec.val ?_ :: Spec.val ?_ :: Spec.val ?_ :: Spec.val ?_ :: Spec.val ?_ :: Spec.val ?_ :: Spec.val ?_ :: Spec.val ?_ :: Spec.val ?_ :: Spec.val ?_ :: []) (by kernel_rfl) (by kernel_rfl) rfl (fun w1 w2 h hb => ⟨⟨chain h.1.1 hb, h.1.2.1.step hb, h.1.2.2.step hb⟩, cell_step h.2.1 hb, cell_step h.2.2.1 hb, cell_step h.2.2.2.1 hb, cell_step h.2.2.2.2.1 hb, cell_step h.2.2.2.2.2.1 hb, cell_step h.2.2.2.2.2.2.1 hb, cell_step h.2.2.2.2.2.2.2.1 hb, cell_step h.2.2.2.2.2.2.2.2.1 hb, cell_step h.2.2.2.2.2.2.2.2.2.1 hb, cell_step h.2.2.2.2.2.2.2.2.2.2 hb⟩) (⟨⟨HB9.out.drew, HX9.out.step (Below.refl _ _).drew, HY9.out.step (Below.refl _ _).drew⟩, c0, c1, c2, c3, d0, d1, d2, d3, p1, hz9⟩) ?hm11
                      case' hm11 => skip
                      refine inv_val (i := 0) (by kernel_rfl) rfl rfl (fun w1 hS hd K hK => ?_) ?_
                      · (try dsimp only at hS); go_simp; refine (alive_any _).mono ?_; rintro e w2 ⟨rfl, hb⟩; exact hK.out _ _ (by simp only [Act.put, List.setIfInBounds_toArray, List.set_cons_zero, List.set_cons_succ, List.nil_append, List.cons_append]; rfl) hb
                      simp only [Act.put, List.setIfInBounds_toArray, List.set_cons_zero, List.set_cons_succ, List.nil_append, List.cons_append]
                      refine inv_val (i := 1) (by kernel_rfl) rfl rfl (fun w1 hS hd K hK => ?_) ?_
                      · (try dsimp only at hS); go_simp; exact hK.out _ _ (by simp only [Act.put, List.setIfInBounds_toArray, List.set_cons_zero, List.set_cons_succ, List.nil_append, List.cons_append]; rfl) (Below.refl _ _)
                      simp only [Act.put, List.setIfInBounds_toArray, List.set_cons_zero, List.set_cons_succ, List.nil_append, List.cons_append]
                      refine inv_val (i := 2) (by kernel_rfl) rfl rfl (fun w1 hS hd K hK => ?_) ?_
                      · (try dsimp only at hS); go_simp; exact hK.out _ _ (by simp only [Act.put, List.setIfInBounds_toArray, List.set_cons_zero, List.set_cons_succ, List.nil_append, List.cons_append]; rfl) (Below.refl _ _)
                      simp only [Act.put, List.setIfInBounds_toArray, List.set_cons_zero, List.set_cons_succ, List.nil_append, List.cons_append]
                      refine inv_val (i := 3) (by kernel_rfl) rfl rfl (fun w1 hS hd K hK => ?_) ?_
                      · (try dsimp only at hS); go_simp; exact hK.out _ _ (by simp only [Act.put, List.setIfInBounds_toArray, List.set_cons_zero, List.set_cons_succ, List.nil_append, List.cons_append]; rfl) (Below.refl _ _)
                      simp only [Act.put, List.setIfInBounds_toArray, List.set_cons_zero, List.set_cons_succ, List.nil_append, List.cons_append]
                      refine inv_val (i := 4) (by kernel_rfl) rfl rfl (fun w1 hS hd K hK => ?_) ?_
                      · (try dsimp only at hS); go_simp; refine (from_any _ ra ti _ hS.1.2.1.lies NA.out KT.out).mono ?_; rintro e w2 ⟨rfl, hb⟩; rw [← HFA.out]; exact hK.out _ _ (by simp only [Act.put, List.setIfInBounds_toArray, List.set_cons_zero, List.set_cons_succ, List.nil_append, List.cons_append]; rfl) hb
                      simp only [Act.put, List.setIfInBounds_toArray, List.set_cons_zero, List.set_cons_succ, List.nil_append, List.cons_append]
                      refine inv_val (i := 5) (by kernel_rfl) rfl rfl (fun w1 hS hd K hK => ?_) ?_
                      · (try dsimp only at hS); go_simp; exact hK.out _ _ (by simp only [Act.put, List.setIfInBounds_toArray, List.set_cons_zero, List.set_cons_succ, List.nil_append, List.cons_append]; rfl) (Below.refl _ _)
                      simp only [Act.put, List.setIfInBounds_toArray, List.set_cons_zero, List.set_cons_succ, List.nil_append, List.cons_append]
                      refine inv_val (i := 6) (by kernel_rfl) rfl rfl (fun w1 hS hd K hK => ?_) ?_
                      · (try dsimp only at hS); go_simp; exact hK.out _ _ (by simp only [Act.put, List.setIfInBounds_toArray, List.set_cons_zero, List.set_cons_succ, List.nil_append, List.cons_append]; rfl) (Below.refl _ _)
                      simp only [Act.put, List.setIfInBounds_toArray, List.set_cons_zero, List.set_cons_succ, List.nil_append, List.cons_append]
                      refine inv_val (i := 7) (by kernel_rfl) rfl rfl (fun w1 hS hd K hK => ?_) ?_
                      · (try dsimp only at hS); go_simp; refine (from_any _ rb ti _ hS.1.2.2.lies NB.out KT.out).mono ?_; rintro e w2 ⟨rfl, hb⟩; rw [← HFB.out]; exact hK.out _ _ (by simp only [Act.put, List.setIfInBounds_toArray, List.set_cons_zero, List.set_cons_succ, List.nil_append, List.cons_append]; rfl) hb
                      simp only [Act.put, List.setIfInBounds_toArray, List.set_cons_zero, List.set_cons_succ, List.nil_append, List.cons_append]
                      refine inv_val (i := 8) (by kernel_rfl) rfl rfl (fun w1 hS hd K hK => ?_) ?_
                      · (try dsimp only at hS); go_simp; exact hK.out _ _ (by simp only [Act.put, List.setIfInBounds_toArray, List.set_cons_zero, List.set_cons_succ, List.nil_append, List.cons_append]; rfl) (Below.refl _ _)
                      simp only [Act.put, List.setIfInBounds_toArray, List.set_cons_zero, List.set_cons_succ, List.nil_append, List.cons_append]
                      refine inv_val (i := 9) (by kernel_rfl) rfl rfl (fun w1 hS hd K hK => ?_) ?_
                      · (try dsimp only at hS); go_simp; exact hK.out _ _ (by simp only [Act.put, List.setIfInBounds_toArray, List.set_cons_zero, List.set_cons_succ, List.nil_append, List.cons_append]; rfl) (Below.refl _ _)
                      simp only [Act.put, List.setIfInBounds_toArray, List.set_cons_zero, List.set_cons_succ, List.nil_append, List.cons_append]
                      refine inv_val (i := 10) (by kernel_rfl) rfl rfl (fun w1 hS hd K hK => ?_) ?_
                      · (try dsimp only at hS); go_simp; exact hK.out _ _ (by simp only [Act.put, List.setIfInBounds_toArray, List.set_cons_zero, List.set_cons_succ, List.nil_append, List.cons_append]; rfl) (Below.refl _ _)
                      simp only [Act.put, List.setIfInBounds_toArray, List.set_cons_zero, List.set_cons_succ, List.nil_append, List.cons_append]
                      refine inv_val (i := 11) (by kernel_rfl) rfl rfl (fun w1 hS hd K hK => ?_) ?_
                      · (try dsimp only at hS); go_simp; exact hK.out _ _ (by simp only [Act.put, List.setIfInBounds_toArray, List.set_cons_zero, List.set_cons_succ, List.nil_append, List.cons_append]; rfl) (Below.refl _ _)
                      simp only [Act.put, List.setIfInBounds_toArray, List.set_cons_zero, List.set_cons_succ, List.nil_append, List.cons_append]
                      refine inv_val (i := 12) (by kernel_rfl) rfl rfl (fun w1 hS hd K hK => ?_) ?_
                      · (try dsimp only at hS); go_simp; exact hK.out _ _ (by simp only [Act.put, List.setIfInBounds_toArray, List.set_cons_zero, List.set_cons_succ, List.nil_append, List.cons_append]; rfl) (Below.refl _ _)
                      simp only [Act.put, List.setIfInBounds_toArray, List.set_cons_zero, List.set_cons_succ, List.nil_append, List.cons_append]
                      refine inv_val (i := 13) (by kernel_rfl) rfl rfl (fun w1 hS hd K hK => ?_) ?_
                      · (try dsimp only at hS); go_simp; refine (from_any _ ra ti _ hS.1.2.1.lies NA.out KT.out).mono ?_; rintro e w2 ⟨rfl, hb⟩; rw [← HFA.out]; exact hK.out _ _ (by simp only [Act.put, List.setIfInBounds_toArray, List.set_cons_zero, List.set_cons_succ, List.nil_append, List.cons_append]; rfl) hb
                      simp only [Act.put, List.setIfInBounds_toArray, List.set_cons_zero, List.set_cons_succ, List.nil_append, List.cons_append]
                      refine inv_val (i := 14) (by kernel_rfl) rfl rfl (fun w1 hS hd K hK => ?_) ?_
                      · (try dsimp only at hS); go_simp; exact hK.out _ _ (by simp only [Act.put, List.setIfInBounds_toArray, List.set_cons_zero, List.set_cons_succ, List.nil_append, List.cons_append]; rfl) (Below.refl _ _)
                      simp only [Act.put, List.setIfInBounds_toArray, List.set_cons_zero, List.set_cons_succ, List.nil_append, List.cons_append]
                      refine inv_val (i := 15) (by kernel_rfl) rfl rfl (fun w1 hS hd K hK => ?_) ?_
                      · (try dsimp only at hS); go_simp; exact hK.out _ _ (by simp only [Act.put, List.setIfInBounds_toArray, List.set_cons_zero, List.set_cons_succ, List.nil_append, List.cons_append]; rfl) (Below.refl _ _)
                      simp only [Act.put, List.setIfInBounds_toArray, List.set_cons_zero, List.set_cons_succ, List.nil_append, List.cons_append]
                      refine inv_val (i := 16) (by kernel_rfl) rfl rfl (fun w1 hS hd K hK => ?_) ?_
                      · (try dsimp only at hS); go_simp; exact hK.out _ _ (by simp only [Act.put, List.setIfInBounds_toArray, List.set_cons_zero, List.set_cons_succ, List.nil_append, List.cons_append]; rfl) (Below.refl _ _)
                      simp only [Act.put, List.setIfInBounds_toArray, List.set_cons_zero, List.set_cons_succ, List.nil_append, List.cons_append]
                      refine inv_val (i := 17) (by kernel_rfl) rfl rfl (fun w1 hS hd K hK => ?_) ?_
                      · (try dsimp only at hS); go_simp; exact hK.out _ _ (by simp only [Act.put, List.setIfInBounds_toArray, List.set_cons_zero, List.set_cons_succ, List.nil_append, List.cons_append]; rfl) (Below.refl _ _)
                      simp only [Act.put, List.setIfInBounds_toArray, List.set_cons_zero, List.set_cons_succ, List.nil_append, List.cons_append]
                      refine inv_val (i := 18) (by kernel_rfl) rfl rfl (fun w1 hS hd K hK => ?_) ?_
                      · (try dsimp only at hS); go_simp; exact hK.out _ _ (by simp only [Act.put, List.setIfInBounds_toArray, List.set_cons_zero, List.set_cons_succ, List.nil_append, List.cons_append]; rfl) (Below.refl _ _)
                      simp only [Act.put, List.setIfInBounds_toArray, List.set_cons_zero, List.set_cons_succ, List.nil_append, List.cons_append]
                      refine inv_val (i := 19) (by kernel_rfl) rfl rfl (fun w1 hS hd K hK => ?_) ?_
                      · (try dsimp only at hS); go_simp; exact hK.out _ _ (by simp only [Act.put, List.setIfInBounds_toArray, List.set_cons_zero, List.set_cons_succ, List.nil_append, List.cons_append]; rfl) (Below.refl _ _)
                      simp only [Act.put, List.setIfInBounds_toArray, List.set_cons_zero, List.set_cons_succ, List.nil_append, List.cons_append]
                      refine inv_val (i := 20) (by kernel_rfl) rfl rfl (fun w1 hS hd K hK => ?_) ?_
                      · (try dsimp only at hS); go_simp; exact hK.out _ _ (by simp only [Act.put, List.setIfInBounds_toArray, List.set_cons_zero, List.set_cons_succ, List.nil_append, List.cons_append]; rfl) (Below.refl _ _)
                      simp only [Act.put, List.setIfInBounds_toArray, List.set_cons_zero, List.set_cons_succ, List.nil_append, List.cons_append]
                      refine inv_val (i := 21) (by kernel_rfl) rfl rfl (fun w1 hS hd K hK => ?_) ?_
                      · (try dsimp only at hS); go_simp; exact hK.out _ _ (by simp only [Act.put, List.setIfInBounds_toArray, List.set_cons_zero, List.set_cons_succ, List.nil_append, List.cons_append]; rfl) (Below.refl _ _)
                      simp only [Act.put, List.setIfInBounds_toArray, List.set_cons_zero, List.set_cons_succ, List.nil_append, List.cons_append]
                      refine inv_val (i := 22) (by kernel_rfl) rfl rfl (fun w1 hS hd K hK => ?_) ?_
                      · (try dsimp only at hS); go_simp; exact hK.out _ _ (by simp only [Act.put, List.setIfInBounds_toArray, List.set_cons_zero, List.set_cons_succ, List.nil_append, List.cons_append]; rfl) (Below.refl _ _)
                      simp only [Act.put, List.setIfInBounds_toArray, List.set_cons_zero, List.set_cons_succ, List.nil_append, List.cons_append]
                      refine inv_val (i := 23) (by kernel_rfl) rfl rfl (fun w1 hS hd K hK => ?_) ?_
                      · (try dsimp only at hS); go_simp; exact hK.out _ _ (by simp only [Act.put, List.setIfInBounds_toArray, List.set_cons_zero, List.set_cons_succ, List.nil_append, List.cons_append]; rfl) (Below.refl _ _)
                      simp only [Act.put, List.setIfInBounds_toArray, List.set_cons_zero, List.set_cons_succ, List.nil_append, List.cons_append]
                      refine inv_val (i := 24) (by kernel_rfl) rfl rfl (fun w1 hS hd K hK => ?_) ?_
                      · (try dsimp only at hS); go_simp; exact hK.out _ _ (by simp only [Act.put, List.setIfInBounds_toArray, List.set_cons_zero, List.set_cons_succ, List.nil_append, List.cons_append]; rfl) (Below.refl _ _)
                      simp only [Act.put, List.setIfInBounds_toArray, List.set_cons_zero, List.set_cons_succ, List.nil_append, List.cons_append]
                      refine inv_val (i := 25) (by kernel_rfl) rfl rfl (fun w1 hS hd K hK => ?_) ?_
                      · (try dsimp only at hS); go_simp; exact hK.out _ _ (by simp only [Act.put, List.setIfInBounds_toArray, List.set_cons_zero, List.set_cons_succ, List.nil_append, List.cons_append]; rfl) (Below.refl _ _)
                      simp only [Act.put, List.setIfInBounds_toArray, List.set_cons_zero, List.set_cons_succ, List.nil_append, List.cons_append]
                      refine inv_val (i := 26) (by kernel_rfl) rfl rfl (fun w1 hS hd K hK => ?_) ?_
                      · (try dsimp only at hS); go_simp; exact hK.out _ _ (by simp only [Act.put, List.setIfInBounds_toArray, List.set_cons_zero, List.set_cons_succ, List.nil_append, List.cons_append]; rfl) (Below.refl _ _)
                      simp only [Act.put, List.setIfInBounds_toArray, List.set_cons_zero, List.set_cons_succ, List.nil_append, List.cons_append]
                      refine inv_val (i := 27) (by kernel_rfl) rfl rfl (fun w1 hS hd K hK => ?_) ?_
                      · (try dsimp only at hS); go_simp; exact hK.out _ _ (by simp only [Act.put, List.setIfInBounds_toArray, List.set_cons_zero, List.set_cons_succ, List.nil_append, List.cons_append]; rfl) (Below.refl _ _)
                      simp only [Act.put, List.setIfInBounds_toArray, List.set_cons_zero, List.set_cons_succ, List.nil_append, List.cons_append]
                      refine inv_val (i := 28) (by kernel_rfl) rfl rfl (fun w1 hS hd K hK => ?_) ?_
                      · (try dsimp only at hS); go_simp; exact hK.out _ _ (by simp only [Act.put, List.setIfInBounds_toArray, List.set_cons_zero, List.set_cons_succ, List.nil_append, List.cons_append]; rfl) (Below.refl _ _)
                      simp only [Act.put, List.setIfInBounds_toArray, List.set_cons_zero, List.set_cons_succ, List.nil_append, List.cons_append]
                      refine inv_val (i := 29) (by kernel_rfl) rfl rfl (fun w1 hS hd K hK => ?_) ?_
                      · (try dsimp only at hS); go_simp; exact hK.out _ _ (by simp only [Act.put, List.setIfInBounds_toArray, List.set_cons_zero, List.set_cons_succ, List.nil_append, List.cons_append]; rfl) (Below.refl _ _)
                      simp only [Act.put, List.setIfInBounds_toArray, List.set_cons_zero, List.set_cons_succ, List.nil_append, List.cons_append]
                      refine inv_val (i := 30) (by kernel_rfl) rfl rfl (fun w1 hS hd K hK => ?_) ?_
                      · (try dsimp only at hS); go_simp; exact hK.out _ _ (by simp only [Act.put, List.setIfInBounds_toArray, List.set_cons_zero, List.set_cons_succ, List.nil_append, List.cons_append]; rfl) (Below.refl _ _)
                      simp only [Act.put, List.setIfInBounds_toArray, List.set_cons_zero, List.set_cons_succ, List.nil_append, List.cons_append]
                      refine inv_val (i := 31) (by kernel_rfl) rfl rfl (fun w1 hS hd K hK => ?_) ?_
                      · (try dsimp only at hS); go_simp; exact hK.out _ _ (by simp only [Act.put, List.setIfInBounds_toArray, List.set_cons_zero, List.set_cons_succ, List.nil_append, List.cons_append]; rfl) (Below.refl _ _)
                      simp only [Act.put, List.setIfInBounds_toArray, List.set_cons_zero, List.set_cons_succ, List.nil_append, List.cons_append]
                      refine inv_val (i := 32) (by kernel_rfl) rfl rfl (fun w1 hS hd K hK => ?_) ?_
                      · (try dsimp only at hS); go_simp; exact hK.out _ _ (by simp only [Act.put, List.setIfInBounds_toArray, List.set_cons_zero, List.set_cons_succ, List.nil_append, List.cons_append]; rfl) (Below.refl _ _)
                      simp only [Act.put, List.setIfInBounds_toArray, List.set_cons_zero, List.set_cons_succ, List.nil_append, List.cons_append]
                      refine inv_val (i := 33) (by kernel_rfl) rfl rfl (fun w1 hS hd K hK => ?_) ?_
                      · (try dsimp only at hS); go_simp; exact hK.out _ _ (by simp only [Act.put, List.setIfInBounds_toArray, List.set_cons_zero, List.set_cons_succ, List.nil_append, List.cons_append]; rfl) (Below.refl _ _)
                      simp only [Act.put, List.setIfInBounds_toArray, List.set_cons_zero, List.set_cons_succ, List.nil_append, List.cons_append]
                      refine inv_val (i := 34) (by kernel_rfl) rfl rfl (fun w1 hS hd K hK => ?_) ?_
                      · (try dsimp only at hS); go_simp; exact hK.out _ _ (by simp only [Act.put, List.setIfInBounds_toArray, List.set_cons_zero, List.set_cons_succ, List.nil_append, List.cons_append]; rfl) (Below.refl _ _)
                      simp only [Act.put, List.setIfInBounds_toArray, List.set_cons_zero, List.set_cons_succ, List.nil_append, List.cons_append]
                      refine inv_val (i := 35) (by kernel_rfl) rfl rfl (fun w1 hS hd K hK => ?_) ?_
                      · (try dsimp only at hS); go_simp; exact hK.out _ _ (by simp only [Act.put, List.setIfInBounds_toArray, List.set_cons_zero, List.set_cons_succ, List.nil_append, List.cons_append]; rfl) (Below.refl _ _)
                      simp only [Act.put, List.setIfInBounds_toArray, List.set_cons_zero, List.set_cons_succ, List.nil_append, List.cons_append]
                      refine inv_val (i := 36) (by kernel_rfl) rfl rfl (fun w1 hS hd K hK => ?_) ?_
                      · (try dsimp only at hS); go_simp; exact hK.out _ _ (by simp only [Act.put, List.setIfInBounds_toArray, List.set_cons_zero, List.set_cons_succ, List.nil_append, List.cons_append]; rfl) (Below.refl _ _)
                      simp only [Act.put, List.setIfInBounds_toArray, List.set_cons_zero, List.set_cons_succ, List.nil_append, List.cons_append]
                      refine inv_val (i := 37) (by kernel_rfl) rfl rfl (fun w1 hS hd K hK => ?_) ?_
                      · (try dsimp only at hS); go_simp; exact hK.out _ _ (by simp only [Act.put, List.setIfInBounds_toArray, List.set_cons_zero, List.set_cons_succ, List.nil_append, List.cons_append]; rfl) (Below.refl _ _)
                      simp only [Act.put, List.setIfInBounds_toArray, List.set_cons_zero, List.set_cons_succ, List.nil_append, List.cons_append]
                      refine inv_val (i := 38) (by kernel_rfl) rfl rfl (fun w1 hS hd K hK => ?_) ?_
                      · (try dsimp only at hS); go_simp; exact hK.out _ _ (by simp only [Act.put, List.setIfInBounds_toArray, List.set_cons_zero, List.set_cons_succ, List.nil_append, List.cons_append]; rfl) (Below.refl _ _)
                      simp only [Act.put, List.setIfInBounds_toArray, List.set_cons_zero, List.set_cons_succ, List.nil_append, List.cons_append]
                      refine inv_val (i := 39) (by kernel_rfl) rfl rfl (fun w1 hS hd K hK => ?_) ?_
                      · (try dsimp only at hS); go_simp; exact hK.out _ _ (by simp only [Act.put, List.setIfInBounds_toArray, List.set_cons_zero, List.set_cons_succ, List.nil_append, List.cons_append]; rfl) (Below.refl _ _)
                      simp only [Act.put, List.setIfInBounds_toArray, List.set_cons_zero, List.set_cons_succ, List.nil_append, List.cons_append]
                      refine inv_val (i := 40) (by kernel_rfl) rfl rfl (fun w1 hS hd K hK => ?_) ?_
                      · (try dsimp only at hS); go_simp; exact hK.out _ _ (by simp only [Act.put, List.setIfInBounds_toArray, List.set_cons_zero, List.set_cons_succ, List.nil_append, List.cons_append]; rfl) (Below.refl _ _)
                      simp only [Act.put, List.setIfInBounds_toArray, List.set_cons_zero, List.set_cons_succ, List.nil_append, List.cons_append]
                      refine inv_val (i := 41) (by kernel_rfl) rfl rfl (fun w1 hS hd K hK => ?_) ?_
                      · rw [if_neg (by simp [Region.wanted, yielded])]; exact hK.out _ _ (by rfl) (Below.refl _ _)
                      simp only [Act.put, List.setIfInBounds_toArray, List.set_cons_zero, List.set_cons_succ, List.nil_append, List.cons_append]
                      refine inv_val (i := 42) (by kernel_rfl) rfl rfl (fun w1 hS hd K hK => ?_) ?_
                      · rw [if_neg (by simp [Region.wanted, yielded])]; exact hK.out _ _ (by rfl) (Below.refl _ _)
                      simp only [Act.put, List.setIfInBounds_toArray, List.set_cons_zero, List.set_cons_succ, List.nil_append, List.cons_append]
                      refine inv_val (i := 43) (by kernel_rfl) rfl rfl (fun w1 hS hd K hK => ?_) ?_
                      · rw [if_neg (by simp [Region.wanted, yielded])]; exact hK.out _ _ (by rfl) (Below.refl _ _)
                      simp only [Act.put, List.setIfInBounds_toArray, List.set_cons_zero, List.set_cons_succ, List.nil_append, List.cons_append]
                      refine inv_val (i := 44) (by kernel_rfl) rfl rfl (fun w1 hS hd K hK => ?_) ?_
                      · rw [if_neg (by simp [Region.wanted, yielded])]; exact hK.out _ _ (by rfl) (Below.refl _ _)
                      simp only [Act.put, List.setIfInBounds_toArray, List.set_cons_zero, List.set_cons_succ, List.nil_append, List.cons_append]
                      refine inv_val (i := 45) (by kernel_rfl) rfl rfl (fun w1 hS hd K hK => ?_) ?_
                      · rw [if_neg (by simp [Region.wanted, yielded])]; exact hK.out _ _ (by rfl) (Below.refl _ _)
                      simp only [Act.put, List.setIfInBounds_toArray, List.set_cons_zero, List.set_cons_succ, List.nil_append, List.cons_append]
                      refine inv_val (i := 46) (by kernel_rfl) rfl rfl (fun w1 hS hd K hK => ?_) ?_
                      · rw [if_neg (by simp [Region.wanted, yielded])]; exact hK.out _ _ (by rfl) (Below.refl _ _)
                      simp only [Act.put, List.setIfInBounds_toArray, List.set_cons_zero, List.set_cons_succ, List.nil_append, List.cons_append]
                      refine inv_val (i := 47) (by kernel_rfl) rfl rfl (fun w1 hS hd K hK => ?_) ?_
                      · rw [if_neg (by simp [Region.wanted, yielded])]; exact hK.out _ _ (by rfl) (Below.refl _ _)
                      simp only [Act.put, List.setIfInBounds_toArray, List.set_cons_zero, List.set_cons_succ, List.nil_append, List.cons_append]
                      refine inv_val (i := 48) (by kernel_rfl) rfl rfl (fun w1 hS hd K hK => ?_) ?_
                      · rw [if_neg (by simp [Region.wanted, yielded])]; exact hK.out _ _ (by rfl) (Below.refl _ _)
                      simp only [Act.put, List.setIfInBounds_toArray, List.set_cons_zero, List.set_cons_succ, List.nil_append, List.cons_append]
                      refine inv_val (i := 49) (by kernel_rfl) rfl rfl (fun w1 hS hd K hK => ?_) ?_
                      · (try dsimp only at hS); go_simp; exact hK.out _ _ (by simp only [Act.put, List.setIfInBounds_toArray, List.set_cons_zero, List.set_cons_succ, List.nil_append, List.cons_append]; rfl) (Below.refl _ _)
                      simp only [Act.put, List.setIfInBounds_toArray, List.set_cons_zero, List.set_cons_succ, List.nil_append, List.cons_append]
                      refine inv_val (i := 50) (by kernel_rfl) rfl rfl (fun w1 hS hd K hK => ?_) ?_
                      · (try dsimp only at hS); go_simp; exact hK.out _ _ (by simp only [Act.put, List.setIfInBounds_toArray, List.set_cons_zero, List.set_cons_succ, List.nil_append, List.cons_append]; rfl) (Below.refl _ _)
                      simp only [Act.put, List.setIfInBounds_toArray, List.set_cons_zero, List.set_cons_succ, List.nil_append, List.cons_append]
                      refine inv_val (i := 51) (by kernel_rfl) rfl rfl (fun w1 hS hd K hK => ?_) ?_
                      · (try dsimp only at hS); go_simp; exact hK.out _ _ (by simp only [Act.put, List.setIfInBounds_toArray, List.set_cons_zero, List.set_cons_succ, List.nil_append, List.cons_append]; rfl) (Below.refl _ _)
                      simp only [Act.put, List.setIfInBounds_toArray, List.set_cons_zero, List.set_cons_succ, List.nil_append, List.cons_append]
                      refine inv_done (by kernel_rfl) (fun w10 hS hd => ?_)
                      have HF10 := Lib.hid (chain HB.out hS.1.1)
                      clear hS hd c0 c1 c2 c3 d0 d1 d2 d3 p0 p1 hz9
                      go_wp2
                      go_ret
                      exact ⟨rfl, HF10.out⟩
      · have e0' : (E != 0) = true := by simpa using e0
        clear e0
        go_wp2_with fail; refine (alive_any _).mono ?_; rintro e w9 ⟨rfl, hb⟩; have HB9 := Lib.hid (chain HB1.out hb); clear hb; go_wp2; go_ret; exact ⟨rfl, HB9.out⟩
  · by_cases g1 : now < 0
    · clear hin
      go_enter Try.func3, Try.ntmps3
      go_wp2_with fail
      refine (small_pol _ n l _ (HP.out.below (bel_new _ _)) HNS.out).mono ?_
      rintro e w1 ⟨rfl, hb⟩
      rw [← HQ.out]
      obtain ⟨h1, hbw⟩ := one_new hb
      have HB1 := Lib.hid hbw
      obtain ⟨p0, p1⟩ := row2 h1
      clear hb hbw h1
      cases q
      · go_wp2_with fail; refine (alive_any _).mono ?_; rintro e w9 ⟨rfl, hb⟩; have HB9 := Lib.hid (chain HB1.out hb); clear hb; go_wp2; go_ret; exact ⟨rfl, HB9.out⟩
      · go_wp2_with fail; refine (alive_any _).mono ?_; rintro e w9 ⟨rfl, hb⟩; have HB9 := Lib.hid (chain HB1.out hb); clear hb; go_wp2; go_ret; exact ⟨rfl, HB9.out⟩
    · by_cases g2 : 2199023255552 < now
      · clear hin
        go_enter Try.func3, Try.ntmps3
        go_wp2_with fail
        refine (small_pol _ n l _ (HP.out.below (bel_new _ _)) HNS.out).mono ?_
        rintro e w1 ⟨rfl, hb⟩
        rw [← HQ.out]
        obtain ⟨h1, hbw⟩ := one_new hb
        have HB1 := Lib.hid hbw
        obtain ⟨p0, p1⟩ := row2 h1
        clear hb hbw h1
        cases q
        · go_wp2_with fail; refine (alive_any _).mono ?_; rintro e w9 ⟨rfl, hb⟩; have HB9 := Lib.hid (chain HB1.out hb); clear hb; go_wp2; go_ret; exact ⟨rfl, HB9.out⟩
        · go_wp2_with fail; refine (alive_any _).mono ?_; rintro e w9 ⟨rfl, hb⟩; have HB9 := Lib.hid (chain HB1.out hb); clear hb; go_wp2; go_ret; exact ⟨rfl, HB9.out⟩
      · by_cases g3 : more < 0
        · clear hin
          go_enter Try.func3, Try.ntmps3
          go_wp2_with fail
          refine (small_pol _ n l _ (HP.out.below (bel_new _ _)) HNS.out).mono ?_
          rintro e w1 ⟨rfl, hb⟩
          rw [← HQ.out]
          obtain ⟨h1, hbw⟩ := one_new hb
          have HB1 := Lib.hid hbw
          obtain ⟨p0, p1⟩ := row2 h1
          clear hb hbw h1
          cases q
          · go_wp2_with fail; refine (alive_any _).mono ?_; rintro e w9 ⟨rfl, hb⟩; have HB9 := Lib.hid (chain HB1.out hb); clear hb; go_wp2; go_ret; exact ⟨rfl, HB9.out⟩
          · go_wp2_with fail; refine (alive_any _).mono ?_; rintro e w9 ⟨rfl, hb⟩; have HB9 := Lib.hid (chain HB1.out hb); clear hb; go_wp2; go_ret; exact ⟨rfl, HB9.out⟩
        · by_cases g4 : 2199023255552 < more
          · clear hin
            go_enter Try.func3, Try.ntmps3
            go_wp2_with fail
            refine (small_pol _ n l _ (HP.out.below (bel_new _ _)) HNS.out).mono ?_
            rintro e w1 ⟨rfl, hb⟩
            rw [← HQ.out]
            obtain ⟨h1, hbw⟩ := one_new hb
            have HB1 := Lib.hid hbw
            obtain ⟨p0, p1⟩ := row2 h1
            clear hb hbw h1
            cases q
            · go_wp2_with fail; refine (alive_any _).mono ?_; rintro e w9 ⟨rfl, hb⟩; have HB9 := Lib.hid (chain HB1.out hb); clear hb; go_wp2; go_ret; exact ⟨rfl, HB9.out⟩
            · go_wp2_with fail; refine (alive_any _).mono ?_; rintro e w9 ⟨rfl, hb⟩; have HB9 := Lib.hid (chain HB1.out hb); clear hb; go_wp2; go_ret; exact ⟨rfl, HB9.out⟩
          · have g5 : 10 < (fl.length : Int) := by omega
            clear hin
            go_enter Try.func3, Try.ntmps3
            go_wp2_with fail
            refine (small_pol _ n l _ (HP.out.below (bel_new _ _)) HNS.out).mono ?_
            rintro e w1 ⟨rfl, hb⟩
            rw [← HQ.out]
            obtain ⟨h1, hbw⟩ := one_new hb
            have HB1 := Lib.hid hbw
            obtain ⟨p0, p1⟩ := row2 h1
            clear hb hbw h1
            cases q
            · go_wp2_with fail; refine (alive_any _).mono ?_; rintro e w9 ⟨rfl, hb⟩; have HB9 := Lib.hid (chain HB1.out hb); clear hb; go_wp2; go_ret; exact ⟨rfl, HB9.out⟩
            · go_wp2_with fail; refine (alive_any _).mono ?_; rintro e w9 ⟨rfl, hb⟩; have HB9 := Lib.hid (chain HB1.out hb); clear hb; go_wp2; go_ret; exact ⟨rfl, HB9.out⟩
end Go.Proofs.Ytaenpcglaenlaaa
