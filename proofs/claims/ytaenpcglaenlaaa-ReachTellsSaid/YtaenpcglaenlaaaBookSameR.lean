/-
  The contract of sedimentbook.SameTiers, of lists that are alike.
-/
import Derived.Test.YtaenpcglaenlaaaReach
import Derived.Laws.StructEq
namespace Go.Proofs.Ytaenpcglaenlaaa
open Go.RowKit
set_option linter.unusedVariables false
set_option linter.unusedSimpArgs false

def TierV.agg (x : TierV) : Value := .agg #[.string x.name, .int .i64 x.every, .int .i64 x.keep, .int .i64 x.shards]
theorem eq_tier (n : ByteArray) (a b c : Int) (w : World) : (binOp .eql 32 (.agg #[.string n, .int .i64 a, .int .i64 b, .int .i64 c]) (.agg #[.string n, .int .i64 a, .int .i64 b, .int .i64 c])).run Try.prog w = .ok (.bool true) w := by
  rw [run_eql_struct, run_equalIn_agg _ _ _ _ _ (by unfold Program.fieldsOf; rw [Try.underlying32]) (by kernel_rfl)]
  unfold Program.fieldsOf
  rw [Try.underlying32]
  simp [Op.eqFields, part, run_equalIn_int, run_equalIn_string, Try.underlying3, Try.underlying9]
set_option maxRecDepth 100000 in
set_option maxHeartbeats 1000000 in
theorem same_tiers (v u : Value) (l l2 : List TierV) (w : World) (hv : TiersAt w v l) (hu : TiersAt w u l) :
    Calls Try.prog 43 #[v, u] w (RetB w (.bool true)) := by
  obtain ⟨a, ca, rfl, hI, hlen, hc⟩ := hv
  obtain ⟨b, cb, rfl, hJ, hlen2, hd⟩ := hu
  have HC := Lib.hid hc
  have HD := Lib.hid hd
  have hnn : ((l.length : Int) != l.length) = false := by simp
  clear hI hJ hc hd
  go_enter Try.func43, Try.ntmps43
  go_wp2
  go_loopw [5] (fun i wr => ∃ (k : Nat), k ≤ l.length ∧ i = .int .i64 k ∧ Below w.heap.size w wr) (fun i _ => l.length - (intOf i).toNat)
  case atStart => exact ⟨0, Nat.zero_le _, rfl, Below.refl _ _⟩
  case round =>
    obtain ⟨k, hk, rfl, hnx⟩ := hrel
    by_cases hlt : k < l.length
    · obtain ⟨b1, o1, rfl, hbw1, hcl1⟩ := HC.out (by intro h; rw [h] at hlt; exact absurd hlt (Nat.not_lt_zero _))
      obtain ⟨b2, o2, rfl, hbw2, hcl2⟩ := HD.out (by intro h; rw [h] at hlt; exact absurd hlt (Nat.not_lt_zero _))
      obtain ⟨x0, x1, x2, x3⟩ := hcl1 k hlt
      obtain ⟨y0, y1, y2, y3⟩ := hcl2 k hlt
      have x0 := (hnx.cell (p := ⟨b1, _, none⟩) hbw1).trans x0
      have x1 := (hnx.cell (p := ⟨b1, _, none⟩) hbw1).trans x1
      have x2 := (hnx.cell (p := ⟨b1, _, none⟩) hbw1).trans x2
      have x3 := (hnx.cell (p := ⟨b1, _, none⟩) hbw1).trans x3
      have y0 := (hnx.cell (p := ⟨b2, _, none⟩) hbw2).trans y0
      have y1 := (hnx.cell (p := ⟨b2, _, none⟩) hbw2).trans y1
      have y2 := (hnx.cell (p := ⟨b2, _, none⟩) hbw2).trans y2
      have y3 := (hnx.cell (p := ⟨b2, _, none⟩) hbw2).trans y3
      obtain ⟨T, hT⟩ : ∃ T, T = l.getD k TierV.zero := ⟨_, rfl⟩
      rw [← hT] at x0 x1 x2 x3 y0 y1 y2 y3
      have hq := fun w => eq_tier T.name T.every T.keep T.shards w
      clear hT hcl1 hcl2
      go_wp2
      go_quiet (fail)
      go_wp2
      go_roundw
      case rel => exact ⟨k + 1, by omega, by go_num, bel_drewN hnx _⟩
      case measure => simp [intOf]; omega
    · go_wp2
      go_ret
      exact ⟨rfl, hnx⟩
end Go.Proofs.Ytaenpcglaenlaaa
