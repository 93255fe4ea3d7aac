/-
  The book's functions on lists that were never kept.
-/
import Derived.Test.YtaenpcglaenlaaaKit
namespace Go.Proofs.Ytaenpcglaenlaaa
open Go.RowKit
set_option linter.unusedVariables false
set_option linter.unusedSimpArgs false

set_option maxRecDepth 100000
theorem stillTexts_nil (p : Nat) (w : World) (c0 : w.cell? ⟨p, 0, none⟩ = some (.slice none 0 0)) : Calls Try.prog 44 #[.pointer (some ⟨p, 0, none⟩)] w (RetB w (.bool true)) := by
  go_enter Try.func44, Try.ntmps44
  go_wp2
  go_loop [3] (fun i => i = .int .i64 0) (fun _ => 0)
  case atStart => rfl
  case round =>
    subst hrel
    go_wp2
    go_ret
    exact ⟨rfl, Below.refl _ _⟩
theorem putTexts_nil (p : Nat) (w : World) (c0 : w.cell? ⟨p, 0, none⟩ = some (.slice none 0 0)) : Calls Try.prog 53 #[.pointer (some ⟨p, 0, none⟩)] w (RetB w (.tuple #[])) := by
  go_enter Try.func53, Try.ntmps53
  go_wp2
  go_loop [2] (fun i => i = .int .i64 0) (fun _ => 0)
  case atStart => rfl
  case round =>
    subst hrel
    go_wp2
    go_end0
    exact ⟨rfl, Below.refl _ _⟩
theorem growTexts_nil (p : Nat) (w : World) (c0 : w.cell? ⟨p, 0, none⟩ = some (.slice none 0 0)) : Calls Try.prog 60 #[.pointer (some ⟨p, 0, none⟩)] w (RetB w (.slice none 0 0)) := by
  go_enter Try.func60, Try.ntmps60
  go_wp2
  go_loop [3, 4] (fun o i => o = .slice none 0 0 ∧ i = .int .i64 0) (fun _ _ => 0)
  case atStart => exact ⟨rfl, rfl⟩
  case round =>
    obtain ⟨rfl, rfl⟩ := hrel
    go_wp2
    go_ret
    exact ⟨rfl, Below.refl _ _⟩
theorem markedTexts_nil (w : World) : Calls Try.prog 68 #[.slice none 0 0] w (RetB w (.bool true)) := by
  go_enter Try.func68, Try.ntmps68
  go_wp2
  go_loop [3] (fun i => i = .int .i64 0) (fun _ => 0)
  case atStart => rfl
  case round =>
    subst hrel
    go_wp2
    go_ret
    exact ⟨rfl, Below.refl _ _⟩
theorem stillInts_nil (p : Nat) (w : World) (c0 : w.cell? ⟨p, 2, none⟩ = some (.slice none 0 0)) : Calls Try.prog 45 #[.pointer (some ⟨p, 0, none⟩)] w (RetB w (.bool true)) := by
  go_enter Try.func45, Try.ntmps45
  go_wp2
  go_loop [3] (fun i => i = .int .i64 0) (fun _ => 0)
  case atStart => rfl
  case round =>
    subst hrel
    go_wp2
    go_ret
    exact ⟨rfl, Below.refl _ _⟩
theorem putInts_nil (p : Nat) (w : World) (c0 : w.cell? ⟨p, 2, none⟩ = some (.slice none 0 0)) : Calls Try.prog 54 #[.pointer (some ⟨p, 0, none⟩)] w (RetB w (.tuple #[])) := by
  go_enter Try.func54, Try.ntmps54
  go_wp2
  go_loop [2] (fun i => i = .int .i64 0) (fun _ => 0)
  case atStart => rfl
  case round =>
    subst hrel
    go_wp2
    go_end0
    exact ⟨rfl, Below.refl _ _⟩
theorem growInts_nil (p : Nat) (w : World) (c0 : w.cell? ⟨p, 2, none⟩ = some (.slice none 0 0)) : Calls Try.prog 61 #[.pointer (some ⟨p, 0, none⟩)] w (RetB w (.slice none 0 0)) := by
  go_enter Try.func61, Try.ntmps61
  go_wp2
  go_loop [3, 4] (fun o i => o = .slice none 0 0 ∧ i = .int .i64 0) (fun _ _ => 0)
  case atStart => exact ⟨rfl, rfl⟩
  case round =>
    obtain ⟨rfl, rfl⟩ := hrel
    go_wp2
    go_ret
    exact ⟨rfl, Below.refl _ _⟩
theorem markedInts_nil (w : World) : Calls Try.prog 69 #[.slice none 0 0] w (RetB w (.bool true)) := by
  go_enter Try.func69, Try.ntmps69
  go_wp2
  go_loop [3] (fun i => i = .int .i64 0) (fun _ => 0)
  case atStart => rfl
  case round =>
    subst hrel
    go_wp2
    go_ret
    exact ⟨rfl, Below.refl _ _⟩
theorem stillRecords_nil (p : Nat) (w : World) (c0 : w.cell? ⟨p, 4, none⟩ = some (.slice none 0 0)) : Calls Try.prog 46 #[.pointer (some ⟨p, 0, none⟩)] w (RetB w (.bool true)) := by
  go_enter Try.func46, Try.ntmps46
  go_wp2
  go_loop [3] (fun i => i = .int .i64 0) (fun _ => 0)
  case atStart => rfl
  case round =>
    subst hrel
    go_wp2
    go_ret
    exact ⟨rfl, Below.refl _ _⟩
theorem putRecords_nil (p : Nat) (w : World) (c0 : w.cell? ⟨p, 4, none⟩ = some (.slice none 0 0)) : Calls Try.prog 55 #[.pointer (some ⟨p, 0, none⟩)] w (RetB w (.tuple #[])) := by
  go_enter Try.func55, Try.ntmps55
  go_wp2
  go_loop [2] (fun i => i = .int .i64 0) (fun _ => 0)
  case atStart => rfl
  case round =>
    subst hrel
    go_wp2
    go_end0
    exact ⟨rfl, Below.refl _ _⟩
theorem growRecords_nil (p : Nat) (w : World) (c0 : w.cell? ⟨p, 4, none⟩ = some (.slice none 0 0)) : Calls Try.prog 62 #[.pointer (some ⟨p, 0, none⟩)] w (RetB w (.slice none 0 0)) := by
  go_enter Try.func62, Try.ntmps62
  go_wp2
  go_loop [3, 4] (fun o i => o = .slice none 0 0 ∧ i = .int .i64 0) (fun _ _ => 0)
  case atStart => exact ⟨rfl, rfl⟩
  case round =>
    obtain ⟨rfl, rfl⟩ := hrel
    go_wp2
    go_ret
    exact ⟨rfl, Below.refl _ _⟩
theorem markedRecords_nil (w : World) : Calls Try.prog 70 #[.slice none 0 0] w (RetB w (.bool true)) := by
  go_enter Try.func70, Try.ntmps70
  go_wp2
  go_loop [3] (fun i => i = .int .i64 0) (fun _ => 0)
  case atStart => rfl
  case round =>
    subst hrel
    go_wp2
    go_ret
    exact ⟨rfl, Below.refl _ _⟩
theorem stillSamples_nil (p : Nat) (w : World) (c0 : w.cell? ⟨p, 6, none⟩ = some (.slice none 0 0)) : Calls Try.prog 47 #[.pointer (some ⟨p, 0, none⟩)] w (RetB w (.bool true)) := by
  go_enter Try.func47, Try.ntmps47
  go_wp2
  go_loop [3] (fun i => i = .int .i64 0) (fun _ => 0)
  case atStart => rfl
  case round =>
    subst hrel
    go_wp2
    go_ret
    exact ⟨rfl, Below.refl _ _⟩
theorem putSamples_nil (p : Nat) (w : World) (c0 : w.cell? ⟨p, 6, none⟩ = some (.slice none 0 0)) : Calls Try.prog 56 #[.pointer (some ⟨p, 0, none⟩)] w (RetB w (.tuple #[])) := by
  go_enter Try.func56, Try.ntmps56
  go_wp2
  go_loop [2] (fun i => i = .int .i64 0) (fun _ => 0)
  case atStart => rfl
  case round =>
    subst hrel
    go_wp2
    go_end0
    exact ⟨rfl, Below.refl _ _⟩
theorem growSamples_nil (p : Nat) (w : World) (c0 : w.cell? ⟨p, 6, none⟩ = some (.slice none 0 0)) : Calls Try.prog 63 #[.pointer (some ⟨p, 0, none⟩)] w (RetB w (.slice none 0 0)) := by
  go_enter Try.func63, Try.ntmps63
  go_wp2
  go_loop [3, 4] (fun o i => o = .slice none 0 0 ∧ i = .int .i64 0) (fun _ _ => 0)
  case atStart => exact ⟨rfl, rfl⟩
  case round =>
    obtain ⟨rfl, rfl⟩ := hrel
    go_wp2
    go_ret
    exact ⟨rfl, Below.refl _ _⟩
theorem markedSamples_nil (w : World) : Calls Try.prog 71 #[.slice none 0 0] w (RetB w (.bool true)) := by
  go_enter Try.func71, Try.ntmps71
  go_wp2
  go_loop [3] (fun i => i = .int .i64 0) (fun _ => 0)
  case atStart => rfl
  case round =>
    subst hrel
    go_wp2
    go_ret
    exact ⟨rfl, Below.refl _ _⟩
theorem stillTiers_nil (p : Nat) (w : World) (c0 : w.cell? ⟨p, 8, none⟩ = some (.slice none 0 0)) : Calls Try.prog 48 #[.pointer (some ⟨p, 0, none⟩)] w (RetB w (.bool true)) := by
  go_enter Try.func48, Try.ntmps48
  go_wp2
  go_loop [3] (fun i => i = .int .i64 0) (fun _ => 0)
  case atStart => rfl
  case round =>
    subst hrel
    go_wp2
    go_ret
    exact ⟨rfl, Below.refl _ _⟩
theorem putTiers_nil (p : Nat) (w : World) (c0 : w.cell? ⟨p, 8, none⟩ = some (.slice none 0 0)) : Calls Try.prog 57 #[.pointer (some ⟨p, 0, none⟩)] w (RetB w (.tuple #[])) := by
  go_enter Try.func57, Try.ntmps57
  go_wp2
  go_loop [2] (fun i => i = .int .i64 0) (fun _ => 0)
  case atStart => rfl
  case round =>
    subst hrel
    go_wp2
    go_end0
    exact ⟨rfl, Below.refl _ _⟩
theorem growTiers_nil (p : Nat) (w : World) (c0 : w.cell? ⟨p, 8, none⟩ = some (.slice none 0 0)) : Calls Try.prog 64 #[.pointer (some ⟨p, 0, none⟩)] w (RetB w (.slice none 0 0)) := by
  go_enter Try.func64, Try.ntmps64
  go_wp2
  go_loop [3, 4] (fun o i => o = .slice none 0 0 ∧ i = .int .i64 0) (fun _ _ => 0)
  case atStart => exact ⟨rfl, rfl⟩
  case round =>
    obtain ⟨rfl, rfl⟩ := hrel
    go_wp2
    go_ret
    exact ⟨rfl, Below.refl _ _⟩
theorem markedTiers_nil (w : World) : Calls Try.prog 72 #[.slice none 0 0] w (RetB w (.bool true)) := by
  go_enter Try.func72, Try.ntmps72
  go_wp2
  go_loop [3] (fun i => i = .int .i64 0) (fun _ => 0)
  case atStart => rfl
  case round =>
    subst hrel
    go_wp2
    go_ret
    exact ⟨rfl, Below.refl _ _⟩
theorem stillErrnos_nil (p : Nat) (w : World) (c0 : w.cell? ⟨p, 10, none⟩ = some (.slice none 0 0)) : Calls Try.prog 49 #[.pointer (some ⟨p, 0, none⟩)] w (RetB w (.bool true)) := by
  go_enter Try.func49, Try.ntmps49
  go_wp2
  go_loop [3] (fun i => i = .int .i64 0) (fun _ => 0)
  case atStart => rfl
  case round =>
    subst hrel
    go_wp2
    go_ret
    exact ⟨rfl, Below.refl _ _⟩
theorem putErrnos_nil (p : Nat) (w : World) (c0 : w.cell? ⟨p, 10, none⟩ = some (.slice none 0 0)) : Calls Try.prog 58 #[.pointer (some ⟨p, 0, none⟩)] w (RetB w (.tuple #[])) := by
  go_enter Try.func58, Try.ntmps58
  go_wp2
  go_loop [2] (fun i => i = .int .i64 0) (fun _ => 0)
  case atStart => rfl
  case round =>
    subst hrel
    go_wp2
    go_end0
    exact ⟨rfl, Below.refl _ _⟩
theorem growErrnos_nil (p : Nat) (w : World) (c0 : w.cell? ⟨p, 10, none⟩ = some (.slice none 0 0)) : Calls Try.prog 65 #[.pointer (some ⟨p, 0, none⟩)] w (RetB w (.slice none 0 0)) := by
  go_enter Try.func65, Try.ntmps65
  go_wp2
  go_loop [3, 4] (fun o i => o = .slice none 0 0 ∧ i = .int .i64 0) (fun _ _ => 0)
  case atStart => exact ⟨rfl, rfl⟩
  case round =>
    obtain ⟨rfl, rfl⟩ := hrel
    go_wp2
    go_ret
    exact ⟨rfl, Below.refl _ _⟩
theorem markedErrnos_nil (w : World) : Calls Try.prog 73 #[.slice none 0 0] w (RetB w (.bool true)) := by
  go_enter Try.func73, Try.ntmps73
  go_wp2
  go_loop [3] (fun i => i = .int .i64 0) (fun _ => 0)
  case atStart => rfl
  case round =>
    subst hrel
    go_wp2
    go_ret
    exact ⟨rfl, Below.refl _ _⟩
theorem stillWords_nil (p : Nat) (w : World) (c0 : w.cell? ⟨p, 12, none⟩ = some (.slice none 0 0)) : Calls Try.prog 50 #[.pointer (some ⟨p, 0, none⟩)] w (RetB w (.bool true)) := by
  go_enter Try.func50, Try.ntmps50
  go_wp2
  go_loop [3] (fun i => i = .int .i64 0) (fun _ => 0)
  case atStart => rfl
  case round =>
    subst hrel
    go_wp2
    go_ret
    exact ⟨rfl, Below.refl _ _⟩
theorem putWords_nil (p : Nat) (w : World) (c0 : w.cell? ⟨p, 12, none⟩ = some (.slice none 0 0)) : Calls Try.prog 59 #[.pointer (some ⟨p, 0, none⟩)] w (RetB w (.tuple #[])) := by
  go_enter Try.func59, Try.ntmps59
  go_wp2
  go_loop [2] (fun i => i = .int .i64 0) (fun _ => 0)
  case atStart => rfl
  case round =>
    subst hrel
    go_wp2
    go_end0
    exact ⟨rfl, Below.refl _ _⟩
theorem growWords_nil (p : Nat) (w : World) (c0 : w.cell? ⟨p, 12, none⟩ = some (.slice none 0 0)) : Calls Try.prog 66 #[.pointer (some ⟨p, 0, none⟩)] w (RetB w (.slice none 0 0)) := by
  go_enter Try.func66, Try.ntmps66
  go_wp2
  go_loop [3, 4] (fun o i => o = .slice none 0 0 ∧ i = .int .i64 0) (fun _ _ => 0)
  case atStart => exact ⟨rfl, rfl⟩
  case round =>
    obtain ⟨rfl, rfl⟩ := hrel
    go_wp2
    go_ret
    exact ⟨rfl, Below.refl _ _⟩
theorem markedWords_nil (w : World) : Calls Try.prog 74 #[.slice none 0 0] w (RetB w (.bool true)) := by
  go_enter Try.func74, Try.ntmps74
  go_wp2
  go_loop [3] (fun i => i = .int .i64 0) (fun _ => 0)
  case atStart => rfl
  case round =>
    subst hrel
    go_wp2
    go_ret
    exact ⟨rfl, Below.refl _ _⟩
theorem stillSteps_nil (p : Nat) (w : World) (c0 : w.cell? ⟨p, 14, none⟩ = some (.slice none 0 0)) : Calls Try.prog 51 #[.pointer (some ⟨p, 0, none⟩)] w (RetB w (.bool true)) := by
  go_enter Try.func51, Try.ntmps51
  go_wp2
  go_loop [3] (fun i => i = .int .i64 0) (fun _ => 0)
  case atStart => rfl
  case round =>
    subst hrel
    go_wp2
    go_ret
    exact ⟨rfl, Below.refl _ _⟩
theorem putSteps_nil (p : Nat) (w : World) (c0 : w.cell? ⟨p, 14, none⟩ = some (.slice none 0 0)) : Calls Try.prog 52 #[.pointer (some ⟨p, 0, none⟩)] w (RetB w (.tuple #[])) := by
  go_enter Try.func52, Try.ntmps52
  go_wp2
  go_loop [2] (fun i => i = .int .i64 0) (fun _ => 0)
  case atStart => rfl
  case round =>
    subst hrel
    go_wp2
    go_end0
    exact ⟨rfl, Below.refl _ _⟩
theorem growSteps_nil (p : Nat) (w : World) (c0 : w.cell? ⟨p, 14, none⟩ = some (.slice none 0 0)) : Calls Try.prog 67 #[.pointer (some ⟨p, 0, none⟩)] w (RetB w (.slice none 0 0)) := by
  go_enter Try.func67, Try.ntmps67
  go_wp2
  go_loop [3, 4] (fun o i => o = .slice none 0 0 ∧ i = .int .i64 0) (fun _ _ => 0)
  case atStart => exact ⟨rfl, rfl⟩
  case round =>
    obtain ⟨rfl, rfl⟩ := hrel
    go_wp2
    go_ret
    exact ⟨rfl, Below.refl _ _⟩
theorem markedSteps_nil (w : World) : Calls Try.prog 75 #[.slice none 0 0] w (RetB w (.bool true)) := by
  go_enter Try.func75, Try.ntmps75
  go_wp2
  go_loop [3] (fun i => i = .int .i64 0) (fun _ => 0)
  case atStart => rfl
  case round =>
    subst hrel
    go_wp2
    go_ret
    exact ⟨rfl, Below.refl _ _⟩
end Go.Proofs.Ytaenpcglaenlaaa
