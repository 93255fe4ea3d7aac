/-
  The book's functions on lists that were never kept.
-/
import Derived.Test.YtjcggkfinhkcoaaGreatKit
namespace Go.Proofs.YtjcggkfinhkcoaaGreat
open Go.RowKit
set_option linter.unusedVariables false
set_option linter.unusedSimpArgs false

set_option maxRecDepth 100000
theorem stillTexts_nil (p : Nat) (w : World) (c0 : w.cell? ⟨p, 0, none⟩ = some (.slice none 0 0)) : Calls Tryz.prog 31 #[.pointer (some ⟨p, 0, none⟩)] w (RetB w (.bool true)) := by
  go_enter Tryz.func31, Tryz.ntmps31
  go_wp2
  go_loop [3] (fun i => i = .int .i64 0) (fun _ => 0)
  case atStart => rfl
  case round =>
    subst hrel
    go_wp2
    go_ret
    exact ⟨rfl, Below.refl _ _⟩
theorem putTexts_nil (p : Nat) (w : World) (c0 : w.cell? ⟨p, 0, none⟩ = some (.slice none 0 0)) : Calls Tryz.prog 40 #[.pointer (some ⟨p, 0, none⟩)] w (RetB w (.tuple #[])) := by
  go_enter Tryz.func40, Tryz.ntmps40
  go_wp2
  go_loop [2] (fun i => i = .int .i64 0) (fun _ => 0)
  case atStart => rfl
  case round =>
    subst hrel
    go_wp2
    go_end0
    exact ⟨rfl, Below.refl _ _⟩
theorem growTexts_nil (p : Nat) (w : World) (c0 : w.cell? ⟨p, 0, none⟩ = some (.slice none 0 0)) : Calls Tryz.prog 47 #[.pointer (some ⟨p, 0, none⟩)] w (RetB w (.slice none 0 0)) := by
  go_enter Tryz.func47, Tryz.ntmps47
  go_wp2
  go_loop [3, 4] (fun o i => o = .slice none 0 0 ∧ i = .int .i64 0) (fun _ _ => 0)
  case atStart => exact ⟨rfl, rfl⟩
  case round =>
    obtain ⟨rfl, rfl⟩ := hrel
    go_wp2
    go_ret
    exact ⟨rfl, Below.refl _ _⟩
theorem markedTexts_nil (w : World) : Calls Tryz.prog 55 #[.slice none 0 0] w (RetB w (.bool true)) := by
  go_enter Tryz.func55, Tryz.ntmps55
  go_wp2
  go_loop [3] (fun i => i = .int .i64 0) (fun _ => 0)
  case atStart => rfl
  case round =>
    subst hrel
    go_wp2
    go_ret
    exact ⟨rfl, Below.refl _ _⟩
theorem stillInts_nil (p : Nat) (w : World) (c0 : w.cell? ⟨p, 2, none⟩ = some (.slice none 0 0)) : Calls Tryz.prog 32 #[.pointer (some ⟨p, 0, none⟩)] w (RetB w (.bool true)) := by
  go_enter Tryz.func32, Tryz.ntmps32
  go_wp2
  go_loop [3] (fun i => i = .int .i64 0) (fun _ => 0)
  case atStart => rfl
  case round =>
    subst hrel
    go_wp2
    go_ret
    exact ⟨rfl, Below.refl _ _⟩
theorem putInts_nil (p : Nat) (w : World) (c0 : w.cell? ⟨p, 2, none⟩ = some (.slice none 0 0)) : Calls Tryz.prog 41 #[.pointer (some ⟨p, 0, none⟩)] w (RetB w (.tuple #[])) := by
  go_enter Tryz.func41, Tryz.ntmps41
  go_wp2
  go_loop [2] (fun i => i = .int .i64 0) (fun _ => 0)
  case atStart => rfl
  case round =>
    subst hrel
    go_wp2
    go_end0
    exact ⟨rfl, Below.refl _ _⟩
theorem growInts_nil (p : Nat) (w : World) (c0 : w.cell? ⟨p, 2, none⟩ = some (.slice none 0 0)) : Calls Tryz.prog 48 #[.pointer (some ⟨p, 0, none⟩)] w (RetB w (.slice none 0 0)) := by
  go_enter Tryz.func48, Tryz.ntmps48
  go_wp2
  go_loop [3, 4] (fun o i => o = .slice none 0 0 ∧ i = .int .i64 0) (fun _ _ => 0)
  case atStart => exact ⟨rfl, rfl⟩
  case round =>
    obtain ⟨rfl, rfl⟩ := hrel
    go_wp2
    go_ret
    exact ⟨rfl, Below.refl _ _⟩
theorem markedInts_nil (w : World) : Calls Tryz.prog 56 #[.slice none 0 0] w (RetB w (.bool true)) := by
  go_enter Tryz.func56, Tryz.ntmps56
  go_wp2
  go_loop [3] (fun i => i = .int .i64 0) (fun _ => 0)
  case atStart => rfl
  case round =>
    subst hrel
    go_wp2
    go_ret
    exact ⟨rfl, Below.refl _ _⟩
theorem stillRecords_nil (p : Nat) (w : World) (c0 : w.cell? ⟨p, 4, none⟩ = some (.slice none 0 0)) : Calls Tryz.prog 33 #[.pointer (some ⟨p, 0, none⟩)] w (RetB w (.bool true)) := by
  go_enter Tryz.func33, Tryz.ntmps33
  go_wp2
  go_loop [3] (fun i => i = .int .i64 0) (fun _ => 0)
  case atStart => rfl
  case round =>
    subst hrel
    go_wp2
    go_ret
    exact ⟨rfl, Below.refl _ _⟩
theorem putRecords_nil (p : Nat) (w : World) (c0 : w.cell? ⟨p, 4, none⟩ = some (.slice none 0 0)) : Calls Tryz.prog 42 #[.pointer (some ⟨p, 0, none⟩)] w (RetB w (.tuple #[])) := by
  go_enter Tryz.func42, Tryz.ntmps42
  go_wp2
  go_loop [2] (fun i => i = .int .i64 0) (fun _ => 0)
  case atStart => rfl
  case round =>
    subst hrel
    go_wp2
    go_end0
    exact ⟨rfl, Below.refl _ _⟩
theorem growRecords_nil (p : Nat) (w : World) (c0 : w.cell? ⟨p, 4, none⟩ = some (.slice none 0 0)) : Calls Tryz.prog 49 #[.pointer (some ⟨p, 0, none⟩)] w (RetB w (.slice none 0 0)) := by
  go_enter Tryz.func49, Tryz.ntmps49
  go_wp2
  go_loop [3, 4] (fun o i => o = .slice none 0 0 ∧ i = .int .i64 0) (fun _ _ => 0)
  case atStart => exact ⟨rfl, rfl⟩
  case round =>
    obtain ⟨rfl, rfl⟩ := hrel
    go_wp2
    go_ret
    exact ⟨rfl, Below.refl _ _⟩
theorem markedRecords_nil (w : World) : Calls Tryz.prog 57 #[.slice none 0 0] w (RetB w (.bool true)) := by
  go_enter Tryz.func57, Tryz.ntmps57
  go_wp2
  go_loop [3] (fun i => i = .int .i64 0) (fun _ => 0)
  case atStart => rfl
  case round =>
    subst hrel
    go_wp2
    go_ret
    exact ⟨rfl, Below.refl _ _⟩
theorem stillSamples_nil (p : Nat) (w : World) (c0 : w.cell? ⟨p, 6, none⟩ = some (.slice none 0 0)) : Calls Tryz.prog 34 #[.pointer (some ⟨p, 0, none⟩)] w (RetB w (.bool true)) := by
  go_enter Tryz.func34, Tryz.ntmps34
  go_wp2
  go_loop [3] (fun i => i = .int .i64 0) (fun _ => 0)
  case atStart => rfl
  case round =>
    subst hrel
    go_wp2
    go_ret
    exact ⟨rfl, Below.refl _ _⟩
theorem putSamples_nil (p : Nat) (w : World) (c0 : w.cell? ⟨p, 6, none⟩ = some (.slice none 0 0)) : Calls Tryz.prog 43 #[.pointer (some ⟨p, 0, none⟩)] w (RetB w (.tuple #[])) := by
  go_enter Tryz.func43, Tryz.ntmps43
  go_wp2
  go_loop [2] (fun i => i = .int .i64 0) (fun _ => 0)
  case atStart => rfl
  case round =>
    subst hrel
    go_wp2
    go_end0
    exact ⟨rfl, Below.refl _ _⟩
theorem growSamples_nil (p : Nat) (w : World) (c0 : w.cell? ⟨p, 6, none⟩ = some (.slice none 0 0)) : Calls Tryz.prog 50 #[.pointer (some ⟨p, 0, none⟩)] w (RetB w (.slice none 0 0)) := by
  go_enter Tryz.func50, Tryz.ntmps50
  go_wp2
  go_loop [3, 4] (fun o i => o = .slice none 0 0 ∧ i = .int .i64 0) (fun _ _ => 0)
  case atStart => exact ⟨rfl, rfl⟩
  case round =>
    obtain ⟨rfl, rfl⟩ := hrel
    go_wp2
    go_ret
    exact ⟨rfl, Below.refl _ _⟩
theorem markedSamples_nil (w : World) : Calls Tryz.prog 58 #[.slice none 0 0] w (RetB w (.bool true)) := by
  go_enter Tryz.func58, Tryz.ntmps58
  go_wp2
  go_loop [3] (fun i => i = .int .i64 0) (fun _ => 0)
  case atStart => rfl
  case round =>
    subst hrel
    go_wp2
    go_ret
    exact ⟨rfl, Below.refl _ _⟩
theorem stillTiers_nil (p : Nat) (w : World) (c0 : w.cell? ⟨p, 8, none⟩ = some (.slice none 0 0)) : Calls Tryz.prog 35 #[.pointer (some ⟨p, 0, none⟩)] w (RetB w (.bool true)) := by
  go_enter Tryz.func35, Tryz.ntmps35
  go_wp2
  go_loop [3] (fun i => i = .int .i64 0) (fun _ => 0)
  case atStart => rfl
  case round =>
    subst hrel
    go_wp2
    go_ret
    exact ⟨rfl, Below.refl _ _⟩
theorem putTiers_nil (p : Nat) (w : World) (c0 : w.cell? ⟨p, 8, none⟩ = some (.slice none 0 0)) : Calls Tryz.prog 44 #[.pointer (some ⟨p, 0, none⟩)] w (RetB w (.tuple #[])) := by
  go_enter Tryz.func44, Tryz.ntmps44
  go_wp2
  go_loop [2] (fun i => i = .int .i64 0) (fun _ => 0)
  case atStart => rfl
  case round =>
    subst hrel
    go_wp2
    go_end0
    exact ⟨rfl, Below.refl _ _⟩
theorem growTiers_nil (p : Nat) (w : World) (c0 : w.cell? ⟨p, 8, none⟩ = some (.slice none 0 0)) : Calls Tryz.prog 51 #[.pointer (some ⟨p, 0, none⟩)] w (RetB w (.slice none 0 0)) := by
  go_enter Tryz.func51, Tryz.ntmps51
  go_wp2
  go_loop [3, 4] (fun o i => o = .slice none 0 0 ∧ i = .int .i64 0) (fun _ _ => 0)
  case atStart => exact ⟨rfl, rfl⟩
  case round =>
    obtain ⟨rfl, rfl⟩ := hrel
    go_wp2
    go_ret
    exact ⟨rfl, Below.refl _ _⟩
theorem markedTiers_nil (w : World) : Calls Tryz.prog 59 #[.slice none 0 0] w (RetB w (.bool true)) := by
  go_enter Tryz.func59, Tryz.ntmps59
  go_wp2
  go_loop [3] (fun i => i = .int .i64 0) (fun _ => 0)
  case atStart => rfl
  case round =>
    subst hrel
    go_wp2
    go_ret
    exact ⟨rfl, Below.refl _ _⟩
theorem stillErrnos_nil (p : Nat) (w : World) (c0 : w.cell? ⟨p, 10, none⟩ = some (.slice none 0 0)) : Calls Tryz.prog 36 #[.pointer (some ⟨p, 0, none⟩)] w (RetB w (.bool true)) := by
  go_enter Tryz.func36, Tryz.ntmps36
  go_wp2
  go_loop [3] (fun i => i = .int .i64 0) (fun _ => 0)
  case atStart => rfl
  case round =>
    subst hrel
    go_wp2
    go_ret
    exact ⟨rfl, Below.refl _ _⟩
theorem putErrnos_nil (p : Nat) (w : World) (c0 : w.cell? ⟨p, 10, none⟩ = some (.slice none 0 0)) : Calls Tryz.prog 45 #[.pointer (some ⟨p, 0, none⟩)] w (RetB w (.tuple #[])) := by
  go_enter Tryz.func45, Tryz.ntmps45
  go_wp2
  go_loop [2] (fun i => i = .int .i64 0) (fun _ => 0)
  case atStart => rfl
  case round =>
    subst hrel
    go_wp2
    go_end0
    exact ⟨rfl, Below.refl _ _⟩
theorem growErrnos_nil (p : Nat) (w : World) (c0 : w.cell? ⟨p, 10, none⟩ = some (.slice none 0 0)) : Calls Tryz.prog 52 #[.pointer (some ⟨p, 0, none⟩)] w (RetB w (.slice none 0 0)) := by
  go_enter Tryz.func52, Tryz.ntmps52
  go_wp2
  go_loop [3, 4] (fun o i => o = .slice none 0 0 ∧ i = .int .i64 0) (fun _ _ => 0)
  case atStart => exact ⟨rfl, rfl⟩
  case round =>
    obtain ⟨rfl, rfl⟩ := hrel
    go_wp2
    go_ret
    exact ⟨rfl, Below.refl _ _⟩
theorem markedErrnos_nil (w : World) : Calls Tryz.prog 60 #[.slice none 0 0] w (RetB w (.bool true)) := by
  go_enter Tryz.func60, Tryz.ntmps60
  go_wp2
  go_loop [3] (fun i => i = .int .i64 0) (fun _ => 0)
  case atStart => rfl
  case round =>
    subst hrel
    go_wp2
    go_ret
    exact ⟨rfl, Below.refl _ _⟩
theorem stillWords_nil (p : Nat) (w : World) (c0 : w.cell? ⟨p, 12, none⟩ = some (.slice none 0 0)) : Calls Tryz.prog 37 #[.pointer (some ⟨p, 0, none⟩)] w (RetB w (.bool true)) := by
  go_enter Tryz.func37, Tryz.ntmps37
  go_wp2
  go_loop [3] (fun i => i = .int .i64 0) (fun _ => 0)
  case atStart => rfl
  case round =>
    subst hrel
    go_wp2
    go_ret
    exact ⟨rfl, Below.refl _ _⟩
theorem putWords_nil (p : Nat) (w : World) (c0 : w.cell? ⟨p, 12, none⟩ = some (.slice none 0 0)) : Calls Tryz.prog 46 #[.pointer (some ⟨p, 0, none⟩)] w (RetB w (.tuple #[])) := by
  go_enter Tryz.func46, Tryz.ntmps46
  go_wp2
  go_loop [2] (fun i => i = .int .i64 0) (fun _ => 0)
  case atStart => rfl
  case round =>
    subst hrel
    go_wp2
    go_end0
    exact ⟨rfl, Below.refl _ _⟩
theorem growWords_nil (p : Nat) (w : World) (c0 : w.cell? ⟨p, 12, none⟩ = some (.slice none 0 0)) : Calls Tryz.prog 53 #[.pointer (some ⟨p, 0, none⟩)] w (RetB w (.slice none 0 0)) := by
  go_enter Tryz.func53, Tryz.ntmps53
  go_wp2
  go_loop [3, 4] (fun o i => o = .slice none 0 0 ∧ i = .int .i64 0) (fun _ _ => 0)
  case atStart => exact ⟨rfl, rfl⟩
  case round =>
    obtain ⟨rfl, rfl⟩ := hrel
    go_wp2
    go_ret
    exact ⟨rfl, Below.refl _ _⟩
theorem markedWords_nil (w : World) : Calls Tryz.prog 61 #[.slice none 0 0] w (RetB w (.bool true)) := by
  go_enter Tryz.func61, Tryz.ntmps61
  go_wp2
  go_loop [3] (fun i => i = .int .i64 0) (fun _ => 0)
  case atStart => rfl
  case round =>
    subst hrel
    go_wp2
    go_ret
    exact ⟨rfl, Below.refl _ _⟩
theorem stillSteps_nil (p : Nat) (w : World) (c0 : w.cell? ⟨p, 14, none⟩ = some (.slice none 0 0)) : Calls Tryz.prog 38 #[.pointer (some ⟨p, 0, none⟩)] w (RetB w (.bool true)) := by
  go_enter Tryz.func38, Tryz.ntmps38
  go_wp2
  go_loop [3] (fun i => i = .int .i64 0) (fun _ => 0)
  case atStart => rfl
  case round =>
    subst hrel
    go_wp2
    go_ret
    exact ⟨rfl, Below.refl _ _⟩
theorem putSteps_nil (p : Nat) (w : World) (c0 : w.cell? ⟨p, 14, none⟩ = some (.slice none 0 0)) : Calls Tryz.prog 39 #[.pointer (some ⟨p, 0, none⟩)] w (RetB w (.tuple #[])) := by
  go_enter Tryz.func39, Tryz.ntmps39
  go_wp2
  go_loop [2] (fun i => i = .int .i64 0) (fun _ => 0)
  case atStart => rfl
  case round =>
    subst hrel
    go_wp2
    go_end0
    exact ⟨rfl, Below.refl _ _⟩
theorem growSteps_nil (p : Nat) (w : World) (c0 : w.cell? ⟨p, 14, none⟩ = some (.slice none 0 0)) : Calls Tryz.prog 54 #[.pointer (some ⟨p, 0, none⟩)] w (RetB w (.slice none 0 0)) := by
  go_enter Tryz.func54, Tryz.ntmps54
  go_wp2
  go_loop [3, 4] (fun o i => o = .slice none 0 0 ∧ i = .int .i64 0) (fun _ _ => 0)
  case atStart => exact ⟨rfl, rfl⟩
  case round =>
    obtain ⟨rfl, rfl⟩ := hrel
    go_wp2
    go_ret
    exact ⟨rfl, Below.refl _ _⟩
theorem markedSteps_nil (w : World) : Calls Tryz.prog 62 #[.slice none 0 0] w (RetB w (.bool true)) := by
  go_enter Tryz.func62, Tryz.ntmps62
  go_wp2
  go_loop [3] (fun i => i = .int .i64 0) (fun _ => 0)
  case atStart => rfl
  case round =>
    subst hrel
    go_wp2
    go_ret
    exact ⟨rfl, Below.refl _ _⟩
end Go.Proofs.YtjcggkfinhkcoaaGreat
