/-
  The walk of the law GridStarts.
-/
import Derived.Test.YtkgcebcbkdkanaaGridLaws1
import Derived.Deep.QuietTactic
import Derived.BigQuiet
namespace Go.Proofs.Ytkgcebcbkdkanaa
open Go.RowKit
set_option linter.unusedVariables false
set_option linter.unusedSimpArgs false

theorem quiet_back {P : Program} {f : FuncId} {args : Array Value} {w : World} {n : Nat} {v : Value}
    (h : Calls P f args (w.drewN n) fun e w' => e = .returned v ∧ w.drewN n = w') : Calls P f args (w.drewN n) fun e w'' => e = .returned v ∧ ∃ m, w'' = w.drewN m :=
  h.mono fun _ _ ⟨he, hm⟩ => ⟨he, n, hm.symm⟩

theorem below_drewN {B : Nat} {a w : World} (h : Below B a w) (n : Nat) : Below B a (w.drewN n) := ⟨h.os, h.tape, h.output, h.size, h.block⟩

theorem chain {a b c : World} (h1 : Below a.heap.size a b) (h2 : Below b.heap.size b c) : Below a.heap.size a c := h1.trans (h2.mono h1.size)

theorem ceil_small (f e : Int) (he : 1 ≤ e) (he' : e ≤ 1000) (h1 : -10000 ≤ f) (h2 : f ≤ 10000) : f ≤ gceil f e ∧ gceil f e < f + e ∧ gceil f e % e = 0 := by
  have ⟨f1, f2, f3⟩ := emod_facts f e he
  unfold gceil; rw [if_neg (by omega)]
  split
  · exact ⟨by omega, by omega, by assumption⟩
  · rw [if_pos (by omega)]
    exact ⟨by omega, by omega, by simp [Int.sub_emod]⟩

theorem div_step (d e : Int) (he : 1 ≤ e) (hd : 1 ≤ d) : d / e = (d - 1) / e + (if d % e = 0 then 1 else 0) := by
  have h1 := Int.mul_ediv_add_emod (d - 1) e
  have ⟨f1, f2, f3⟩ := emod_facts (d - 1) e he
  by_cases h : (d - 1) % e + 1 = e
  · have h2 : d = e * ((d - 1) / e + 1) := by rw [Int.mul_add, Int.mul_one]; omega
    have h3 : d / e = (d - 1) / e + 1 := by
      conv => lhs; rw [h2]
      exact Int.mul_ediv_cancel_left _ (by omega)
    have h4 : d % e = 0 := by rw [h2]; exact Int.mul_emod_right _ _
    rw [h3, if_pos h4]
  · have h2 : d = ((d - 1) % e + 1) + e * ((d - 1) / e) := by omega
    have h4 : d % e = (d - 1) % e + 1 := by
      conv => lhs; rw [h2, Int.add_mul_emod_self_left]
      exact Int.emod_eq_of_lt (by omega) (by omega)
    have h3 : d / e = (d - 1) / e := by
      have h5 := Int.mul_ediv_add_emod d e
      have h6 : e * (d / e) = e * ((d - 1) / e) := by omega
      exact Int.eq_of_mul_eq_mul_left (by omega) h6
    rw [h3, if_neg (by omega)]; omega

theorem count_step (c f t e : Int) (he : 1 ≤ e) (hc : f ≤ c) (hc' : c < f + e) (hm : c % e = 0) (ht : f ≤ t) :
    gcount c f (t + 1) e = gcount c f t e + (if t % e = 0 then 1 else 0) := by
  have hdm := Int.mul_ediv_add_emod c e
  have htm : (t - c) % e = t % e := by
    have : t = (t - c) + e * (c / e) := by omega
    conv => rhs; rw [this, Int.add_mul_emod_self_left]
  unfold gcount
  by_cases h : t < c
  · rw [if_pos (by omega), if_pos (by omega), if_neg]
    intro h0
    rw [← htm] at h0
    have := Int.emod_eq_of_lt (a := t - c + e) (b := e) (by omega) (by omega)
    rw [Int.add_emod_right] at this
    omega
  · by_cases h2 : t = c
    · subst h2
      rw [if_neg (by omega), if_pos (by omega), if_pos hm]
      simp
    · rw [if_neg (by omega), if_neg (by omega)]
      have h3 := div_step (t - c) e he (by omega)
      rw [htm] at h3
      have h4 : 0 ≤ (t - c - 1) / e := Int.ediv_nonneg (by omega) (by omega)
      rw [show t + 1 - 1 - c = t - c from by omega, show t - 1 - c = t - c - 1 from by omega, h3]
      split <;> omega

theorem count_zero (c f e : Int) (h : f ≤ c) : gcount c f f e = 0 := by unfold gcount; rw [if_pos (by omega)]

theorem gl_get (c e : Int) (N k : Nat) (h : k < N) : (GL c e N).getD k 0 = c + k * e := by
  simp [GL, h, List.getD]

/-- What the law asks of the k-th start. -/
theorem gl_facts (c f t e : Int) (N k : Nat) (he : 1 ≤ e) (hm : c % e = 0) (hN : N = gcount c f t e) (h : k < N) :
    gon (c + k * e) e = true ∧ f ≤ c + k * e ∧ c + k * e < t := by
  have := (gcount_lt c f t e k he (by omega)).1 (by omega)
  refine ⟨?_, this⟩
  unfold gon; simp [he, Int.add_emod, hm]

theorem count_small (c f t e : Int) (he : 1 ≤ e) (hc : f ≤ c) (ht : t ≤ f + 5000) (h0 : f ≤ t) : gcount c f t e ≤ 5000 := by
  unfold gcount; split
  · omega
  · have h1 : (t - 1 - c) / e ≤ t - 1 - c := Int.ediv_le_self _ (by omega)
    have h4 : 0 ≤ (t - 1 - c) / e := Int.ediv_nonneg (by omega) (by omega)
    omega

set_option maxRecDepth 100000 in
set_option maxHeartbeats 800000 in
theorem walkGridStartsIn (f t e : Int) (w : World) (he : 1 ≤ e) (he' : e ≤ 1000) (hf : -10000 ≤ f) (hf' : f ≤ 10000) (ht : f ≤ t) (ht' : t ≤ f + 5000) :
    Calls Try.prog 8 #[.int .i64 f, .int .i64 t, .int .i64 e] w (BoolPost w true) := by
  obtain ⟨c, hc⟩ : ∃ c, c = gceil f e := ⟨_, rfl⟩
  obtain ⟨N, hN⟩ : ∃ N, N = gcount c f t e := ⟨_, rfl⟩
  have ⟨c1, c2, c3⟩ := ceil_small f e he he' hf hf'
  rw [← hc] at c1 c2 c3
  have hN5 : N ≤ 5000 := by rw [hN]; exact count_small c f t e he c1 ht' ht
  have R : Hid (gstarts f t e 5001 = (GL c e N, true)) := Lib.hid (by
    unfold gstarts; rw [if_neg (by omega), ← hc, ← hN, if_pos (by omega)]; rfl)
  have R2 : Hid ((gstarts f t e ((N : Int) - 1)).2 = false) := Lib.hid (by
    unfold gstarts; split
    · rfl
    · rw [← hc, ← hN, if_neg (by omega)])
  have HN := Lib.hid hN
  have C3 := Lib.hid c3
  clear hc hN c3
  have t1 : decide (e < 1) = false := by simp; omega
  have t2 : decide (1000 < e) = false := by simp; omega
  have t3 : decide (f < -10000) = false := by simp; omega
  have t4 : decide (10000 < f) = false := by simp; omega
  have t5 : decide (t < f) = false := by simp; omega
  have t6 : decide (f + 5000 < t) = false := by simp; omega
  go_enter Try.func8, Try.ntmps8
  go_wp2_with fail
  refine (starts_any _ _ _ _ _ (by unfold I64; omega) (by unfold I64; omega) (by unfold I64; omega) (by unfold I64; omega) (by omega)).mono ?_
  rintro x w1 ⟨v, rfl, hown, hb⟩
  rw [R.out] at hown ⊢
  simp only at hown ⊢
  obtain ⟨a, ca, rfl, hrow⟩ := own_row hown (GL_len c e N)
  have hcell : ∀ k, k < N → ∃ g, a = some ⟨g, 0, none⟩ ∧ g < w1.heap.size ∧ ∀ j, j < N → w1.cell? ⟨g, j, none⟩ = some (.int .i64 ((GL c e N).getD j 0)) := by
    intro k hk
    obtain ⟨g, c', h1, _, h2, h3⟩ := own_cells hown (by intro h; have := GL_len c e N; rw [h] at this; simp at this; omega)
    rw [GL_len] at h1 h3
    simp only [Value.slice.injEq] at h1
    exact ⟨g, h1.1, h2, h3⟩
  have HC := Lib.hid hcell
  clear hown hrow hcell
  go_wp2
  go_loopw [9] (fun i wr => ∃ k : Nat, k ≤ N ∧ i = .int .i64 k ∧ Below w1.heap.size w1 wr) (fun i _ => N - (intOf i).toNat)
  case atStart => exact ⟨0, Nat.zero_le _, rfl, Below.refl _ _⟩
  case round =>
    obtain ⟨k, hk, rfl, hnx⟩ := hrel
    by_cases hlt : k < N
    · obtain ⟨g, rfl, hg, hcl⟩ := HC.out k hlt
      have hk0 := (hnx.cell (p := ⟨g, k, none⟩) hg).trans (hcl k hlt)
      rw [gl_get c e N k hlt] at hk0
      obtain ⟨x, hx⟩ : ∃ x, x = c + k * e := ⟨_, rfl⟩
      rw [← hx] at hk0
      have ⟨g1, g2, g3⟩ := gl_facts c f t e N k he C3.out HN.out hlt
      rw [← hx] at g1 g2 g3
      by_cases h0 : 0 < k
      · have hk1 := (hnx.cell (p := ⟨g, k - 1, none⟩) hg).trans (hcl (k - 1) (by omega))
        rw [gl_get c e N (k - 1) (by omega)] at hk1
        have hx1 : c + ((k - 1 : Nat) : Int) * e = x - e := by
          have : ((k : Nat) : Int) = ((k - 1 : Nat) : Int) + 1 := by omega
          rw [hx, this, Int.add_mul]; omega
        rw [hx1] at hk1
        have d1 : decide ((0 : Int) < (k : Int)) = true := by simp; omega
        have i1 : IntKind.i64.wrap ((k : Int) - 1) = (k : Int) - 1 := IntWalk.i64_in _ (by omega)
        have i2 : 0 ≤ (k : Int) - 1 := by omega
        have i3 : ((k : Int) - 1).toNat = k - 1 := by omega
        have i4 : (k : Int) - 1 < (N : Int) := by omega
        have i5 : IntKind.i64.wrap (x - e + e) = x := by rw [IntWalk.i64_in _ (by omega)]; omega
        clear hx hx1 hcl
        go_wp2_with fail
        refine wp_region_quiet_lit (by kernel_rfl) (by kernel_rfl) ?_; (repeat (first | go_big_quiet_step ((go_at_call 19; refine quiet_back (v := .bool true) ?_; refine (on_any _ _ _ (by unfold I64; omega) (by unfold I64; omega)).mono ?_; rintro x w2 ⟨rfl, rfl⟩; exact ⟨by rw [g1], rfl⟩)) | quiet_step ((go_at_call 19; refine quiet_back (v := .bool true) ?_; refine (on_any _ _ _ (by unfold I64; omega) (by unfold I64; omega)).mono ?_; rintro x w2 ⟨rfl, rfl⟩; exact ⟨by rw [g1], rfl⟩)))); refine wpQuiet_nil ?_; intro _ hw'; obtain ⟨nq, hw''⟩ := hw'; subst hw''
        go_wp2
        go_roundw
        case rel => exact ⟨k + 1, by omega, by go_num, below_drewN hnx nq⟩
        case measure => simp [intOf]; omega
      · have d1 : decide ((0 : Int) < (k : Int)) = false := by simp; omega
        clear hx hcl
        go_wp2_with fail
        refine wp_region_quiet_lit (by kernel_rfl) (by kernel_rfl) ?_; (repeat (first | go_big_quiet_step ((go_at_call 19; refine quiet_back (v := .bool true) ?_; refine (on_any _ _ _ (by unfold I64; omega) (by unfold I64; omega)).mono ?_; rintro x w2 ⟨rfl, rfl⟩; exact ⟨by rw [g1], rfl⟩)) | quiet_step ((go_at_call 19; refine quiet_back (v := .bool true) ?_; refine (on_any _ _ _ (by unfold I64; omega) (by unfold I64; omega)).mono ?_; rintro x w2 ⟨rfl, rfl⟩; exact ⟨by rw [g1], rfl⟩)))); refine wpQuiet_nil ?_; intro _ hw'; obtain ⟨nq, hw''⟩ := hw'; subst hw''
        go_wp2
        go_roundw
        case rel => exact ⟨k + 1, by omega, by go_num, below_drewN hnx nq⟩
        case measure => simp [intOf]; omega
    · have hkN : k = N := by omega
      subst hkN
      clear hlt
      go_wp2
      obtain ⟨wo, hwo⟩ : ∃ wo : World, wo = wr := ⟨_, rfl⟩
      subst hwo
      go_loopw [10, 11] (fun n i wr => ∃ x : Int, f ≤ x ∧ x ≤ t ∧ i = .int .i64 x ∧ n = .int .i64 (gcount c f x e) ∧ gcount c f x e ≤ 5000 ∧ Below w1.heap.size w1 wr) (fun _ i _ => (t - intOf i).toNat)
      case atStart => exact ⟨f, by omega, ht, rfl, by rw [count_zero c f e c1]; rfl, by rw [count_zero c f e c1]; omega, hnx⟩
      case round =>
        obtain ⟨x, x1, x2, rfl, rfl, x3, hnx2⟩ := hrel
        have HS := Lib.hid (count_step c f x e he c1 c2 C3.out x1)
        by_cases hlt : x < t
        · have x4 := count_small c f (x + 1) e he c1 (by omega) (by omega)
          by_cases hm : x % e = 0
          · have ho : gon x e = true := by unfold gon; simp [he, hm]
            rw [if_pos hm] at HS
            clear hm
            go_wp2_with (go_at_call 19; refine (on_any _ _ _ (by unfold I64; omega) (by unfold I64; omega)).mono ?_; rintro x w2 ⟨rfl, rfl⟩)
            go_roundw
            case rel => exact ⟨x + 1, by omega, by omega, rfl, by rw [HS.out]; go_num, x4, hnx2⟩
            case measure => simp [intOf]; omega
          · have ho : gon x e = false := by unfold gon; simp [hm]
            rw [if_neg hm] at HS
            clear hm
            go_wp2_with (go_at_call 19; refine (on_any _ _ _ (by unfold I64; omega) (by unfold I64; omega)).mono ?_; rintro x w2 ⟨rfl, rfl⟩)
            go_roundw
            case rel => exact ⟨x + 1, by omega, by omega, rfl, by rw [HS.out]; go_num, x4, hnx2⟩
            case measure => simp [intOf]; omega
        · have hxt : x = t := by omega
          subst hxt
          have hN1 := HN.out
          rw [← hN1]
          clear hN1 HS
          have j1 : IntKind.i64.wrap ((k : Int) - 1) = (k : Int) - 1 := IntWalk.i64_in _ (by omega)
          go_wp2_with fail
          refine (starts_any _ _ _ _ _ (by unfold I64; omega) (by unfold I64; omega) (by unfold I64; omega) (by unfold I64; omega) (by omega)).mono ?_
          rintro y w3 ⟨v3, rfl, hown3, hb3⟩
          rw [R2.out]
          clear hown3
          go_wp2_with (go_at_call 9; refine (alive_any _).mono ?_; rintro x w1 ⟨rfl, hb1⟩)
          go_ret
          exact ⟨rfl, chain hb (chain hnx2 (chain hb3 hb1))⟩
set_option maxRecDepth 100000 in
set_option maxHeartbeats 800000 in
theorem walkGridStarts (f : Int) (w0 : (Lit.int .i64 f).wf = true) (t : Int) (w1 : (Lit.int .i64 t).wf = true) (e : Int) (w2 : (Lit.int .i64 e).wf = true) (w : World) :
    Calls Try.prog 8 #[.int .i64 f, .int .i64 t, .int .i64 e] w (BoolPost w true) := by
  have h0 := I64_of_wf w0
  have h1 := I64_of_wf w1
  have h2 := I64_of_wf w2
  clear w0 w1 w2
  by_cases c0 : e < 1
  · go_enter Try.func8, Try.ntmps8
    go_wp2_with (go_at_call 9; refine (alive_any _).mono ?_; rintro x w1 ⟨rfl, hb1⟩)
    go_ret
    exact ⟨rfl, hb1⟩
  · by_cases c1 : 1000 < e
    · go_enter Try.func8, Try.ntmps8
      go_wp2_with (go_at_call 9; refine (alive_any _).mono ?_; rintro x w1 ⟨rfl, hb1⟩)
      go_ret
      exact ⟨rfl, hb1⟩
    · by_cases c2 : f < -10000
      · go_enter Try.func8, Try.ntmps8
        go_wp2_with (go_at_call 9; refine (alive_any _).mono ?_; rintro x w1 ⟨rfl, hb1⟩)
        go_ret
        exact ⟨rfl, hb1⟩
      · by_cases c3 : 10000 < f
        · go_enter Try.func8, Try.ntmps8
          go_wp2_with (go_at_call 9; refine (alive_any _).mono ?_; rintro x w1 ⟨rfl, hb1⟩)
          go_ret
          exact ⟨rfl, hb1⟩
        · by_cases c4 : t < f
          · go_enter Try.func8, Try.ntmps8
            go_wp2_with (go_at_call 9; refine (alive_any _).mono ?_; rintro x w1 ⟨rfl, hb1⟩)
            go_ret
            exact ⟨rfl, hb1⟩
          · by_cases c5 : f + 5000 < t
            · go_enter Try.func8, Try.ntmps8
              go_wp2_with (go_at_call 9; refine (alive_any _).mono ?_; rintro x w1 ⟨rfl, hb1⟩)
              go_ret
              exact ⟨rfl, hb1⟩
            · exact walkGridStartsIn f t e w (by omega) (by omega) (by omega) (by omega) (by omega) (by omega)
end Go.Proofs.Ytkgcebcbkdkanaa
