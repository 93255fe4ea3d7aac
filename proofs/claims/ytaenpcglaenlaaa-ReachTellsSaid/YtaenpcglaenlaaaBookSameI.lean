/-
  The contract of sedimentbook.SameInts.
-/
import Derived.Test.YtaenpcglaenlaaaKit
namespace Go.Proofs.Ytaenpcglaenlaaa
open Go.RowKit
set_option linter.unusedVariables false
set_option linter.unusedSimpArgs false

theorem same_take {l m : List Int} {k : Nat} (hk : k < l.length) (hk2 : k < m.length) (h : l.take k = m.take k) (hx : l.getD k 0 = m.getD k 0) : l.take (k + 1) = m.take (k + 1) := by
  rw [take_snoc hk, take_snoc hk2, h, hx]
theorem not_same {l m : List Int} {k : Nat} (hx : l.getD k 0 ≠ m.getD k 0) : l ≠ m := fun h => hx (by rw [h])

set_option maxRecDepth 100000 in
set_option maxHeartbeats 1000000 in
theorem same_ints (v u : Value) (l m : List Int) (w : World) (hv : IntsAt w v l) (hu : IntsAt w u m) :
    Calls Try.prog 26 #[v, u] w (RetB w (.bool (decide (l = m)))) := by
  obtain ⟨a, ca, rfl, hI, hlen, hc⟩ := hv
  obtain ⟨b, cb, rfl, hJ, hlen2, hd⟩ := hu
  have HC := Lib.hid hc
  have HD := Lib.hid hd
  clear hI hJ hc hd
  by_cases hne : l.length = m.length
  · have HN := Lib.hid hne
    obtain ⟨n, hn⟩ : ∃ n, n = l.length := ⟨_, rfl⟩
    have hn2 : m.length = n := by omega
    have HNL := Lib.hid hn
    have HNM := Lib.hid hn2
    rw [← hn] at hlen ⊢
    rw [hn2] at hlen2 ⊢
    clear hne hn hn2
    go_enter Try.func26, Try.ntmps26
    go_wp2
    go_loopw [5] (fun i wr => ∃ (k : Nat), k ≤ n ∧ i = .int .i64 k ∧ Hid (l.take k = m.take k) ∧ Below w.heap.size w wr) (fun i _ => n - (intOf i).toNat)
    case atStart => exact ⟨0, Nat.zero_le _, rfl, Lib.hid rfl, Below.refl _ _⟩
    case round =>
      obtain ⟨k, hk, rfl, HT, hnx⟩ := hrel
      by_cases hlt : k < n
      · obtain ⟨b1, o1, rfl, hbw1, hcl1⟩ := HC.out (by intro h; have := HNL.out; simp [h] at this; omega)
        obtain ⟨b2, o2, rfl, hbw2, hcl2⟩ := HD.out (by intro h; have := HNM.out; simp [h] at this; omega)
        have hx1 := (hnx.cell (p := ⟨b1, o1 + k, none⟩) hbw1).trans (hcl1 k (by have := HNL.out; omega))
        have hx2 := (hnx.cell (p := ⟨b2, o2 + k, none⟩) hbw2).trans (hcl2 k (by have := HNM.out; omega))
        obtain ⟨x, hx⟩ : ∃ x, x = l.getD k 0 := ⟨_, rfl⟩
        obtain ⟨y, hy⟩ : ∃ y, y = m.getD k 0 := ⟨_, rfl⟩
        rw [← hx] at hx1
        rw [← hy] at hx2
        have HX := Lib.hid hx
        have HY := Lib.hid hy
        clear hx hy hcl1 hcl2
        by_cases hxy : x = y
        · have hq : (x == y) = true := by simpa using hxy
          have HXY := Lib.hid hxy
          clear hxy
          go_wp2
          go_quiet (fail)
          go_wp2
          go_roundw
          case rel => exact ⟨k + 1, by omega, by go_num, Lib.hid (same_take (by have := HNL.out; omega) (by have := HNM.out; omega) HT.out (by rw [← HX.out, ← HY.out, HXY.out])), bel_drewN hnx _⟩
          case measure => simp [intOf]; omega
        · have hq : (x == y) = false := by simpa using hxy
          have HXY := Lib.hid hxy
          clear hxy
          go_wp2
          go_quiet (fail)
          go_wp2
          go_ret
          exact ⟨ret_bool (by simp; exact not_same (k := k) (by rw [← HX.out, ← HY.out]; exact HXY.out)), bel_drewN hnx _⟩
      · have hkn : k = n := by omega
        subst hkn
        go_wp2
        go_ret
        refine ⟨ret_bool ?_, hnx⟩
        have := HT.out
        rw [List.take_of_length_le (by have := HNL.out; omega), List.take_of_length_le (by have := HNM.out; omega)] at this
        simp [this]
  · have hq : ((l.length : Int) != m.length) = true := by simp; omega
    have hr : decide (l = m) = false := by simp; intro h; exact hne (by rw [h])
    rw [hr]
    clear hne hr
    go_enter Try.func26, Try.ntmps26
    go_wp2
    go_ret
    exact ⟨rfl, Below.refl _ _⟩

theorem info_int : (Try.prog.info? 3).map (fun i => (i.zero, i.size, i.bytes)) = some (some (.int .i64 0), 1, 8) := by kernel_rfl
theorem append_nil_empty (a : Option Addr) (c : Nat) (t : TypeId) (w : World) : (Builtin.append_ #[25, 25] t #[.slice none 0 0, .slice a 0 c]).run Try.prog w = .ok (.slice none 0 0) w := by
  obtain ⟨i0, hi, hz0, hz1, hz2⟩ := info_parts info_int
  cases a <;> simp [Builtin.append_, run_underlying Try.underlying25, sizeOf, typeInfo, hi, Builtin.lenOf, Builtin.firstCells, loadCells, loadCellsFrom]

theorem wpList_append_nil0 {P : Program} {w : World} {ops : Array Oper} {rest : List Oper} {o : Oper} {a : Act} {Q : Exit → Act → World → Prop} (hgd : o.guard = none) (s x : Operand) (t : TypeId)
    (ho : o.op = .call { callee := .builtin .append, args := #[s, x], argTypes := #[t, t] }) (ad : Option Addr) (c : Nat) (hs : a.eval s = .slice none 0 0) (hx : a.eval x = .slice ad 0 c)
    (hr : ∀ ty w, (Builtin.append_ #[t, t] ty #[.slice none 0 0, .slice ad 0 c]).run P w = .ok (.slice none 0 0) w)
    (h : wpList P ops Q rest (a.put o.dst (.slice none 0 0)) w) : wpList P ops Q (o :: rest) a w := by
  refine wpList_plain hgd fun K hK => ?_
  have hrun := hr o.type w
  unfold Oper.wp
  simp [execOp, ho, resolve, invoke, builtin, hs, hx, hrun, Result.andThen]
  exact hK _ _ h

end Go.Proofs.Ytaenpcglaenlaaa
