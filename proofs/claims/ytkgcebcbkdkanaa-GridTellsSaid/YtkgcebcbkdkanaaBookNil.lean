/-
  The book's functions on lists that were never kept.
-/
import Derived.Test.YtkgcebcbkdkanaaKit
namespace Go.Proofs.Ytkgcebcbkdkanaa
open Go.RowKit
set_option linter.unusedVariables false
set_option linter.unusedSimpArgs false

set_option maxRecDepth 100000
theorem stillTexts_nil (p : Nat) (w : World) (c0 : w.cell? ⟨p, 0, none⟩ = some (.slice none 0 0)) : Calls Try.prog 25 #[.pointer (some ⟨p, 0, none⟩)] w (RetB w (.bool true)) := by
  go_enter Try.func25, Try.ntmps25
  go_wp2
  go_loop [3] (fun i => i = .int .i64 0) (fun _ => 0)
  case atStart => rfl
  case round =>
    subst hrel
    go_wp2
    go_ret
    exact ⟨rfl, Below.refl _ _⟩
theorem putTexts_nil (p : Nat) (w : World) (c0 : w.cell? ⟨p, 0, none⟩ = some (.slice none 0 0)) : Calls Try.prog 34 #[.pointer (some ⟨p, 0, none⟩)] w (RetB w (.tuple #[])) := by
  go_enter Try.func34, Try.ntmps34
  go_wp2
  go_loop [2] (fun i => i = .int .i64 0) (fun _ => 0)
  case atStart => rfl
  case round =>
    subst hrel
    go_wp2
    go_end0
    exact ⟨rfl, Below.refl _ _⟩
theorem growTexts_nil (p : Nat) (w : World) (c0 : w.cell? ⟨p, 0, none⟩ = some (.slice none 0 0)) : Calls Try.prog 41 #[.pointer (some ⟨p, 0, none⟩)] w (RetB w (.slice none 0 0)) := by
  go_enter Try.func41, Try.ntmps41
  go_wp2
  go_loop [3, 4] (fun o i => o = .slice none 0 0 ∧ i = .int .i64 0) (fun _ _ => 0)
  case atStart => exact ⟨rfl, rfl⟩
  case round =>
    obtain ⟨rfl, rfl⟩ := hrel
    go_wp2
    go_ret
    exact ⟨rfl, Below.refl _ _⟩
theorem markedTexts_nil (w : World) : Calls Try.prog 49 #[.slice none 0 0] w (RetB w (.bool true)) := by
  go_enter Try.func49, Try.ntmps49
  go_wp2
  go_loop [3] (fun i => i = .int .i64 0) (fun _ => 0)
  case atStart => rfl
  case round =>
    subst hrel
    go_wp2
    go_ret
    exact ⟨rfl, Below.refl _ _⟩
theorem stillInts_nil (p : Nat) (w : World) (c0 : w.cell? ⟨p, 2, none⟩ = some (.slice none 0 0)) : Calls Try.prog 26 #[.pointer (some ⟨p, 0, none⟩)] w (RetB w (.bool true)) := by
  go_enter Try.func26, Try.ntmps26
  go_wp2
  go_loop [3] (fun i => i = .int .i64 0) (fun _ => 0)
  case atStart => rfl
  case round =>
    subst hrel
    go_wp2
    go_ret
    exact ⟨rfl, Below.refl _ _⟩
theorem putInts_nil (p : Nat) (w : World) (c0 : w.cell? ⟨p, 2, none⟩ = some (.slice none 0 0)) : Calls Try.prog 35 #[.pointer (some ⟨p, 0, none⟩)] w (RetB w (.tuple #[])) := by
  go_enter Try.func35, Try.ntmps35
  go_wp2
  go_loop [2] (fun i => i = .int .i64 0) (fun _ => 0)
  case atStart => rfl
  case round =>
    subst hrel
    go_wp2
    go_end0
    exact ⟨rfl, Below.refl _ _⟩
theorem growInts_nil (p : Nat) (w : World) (c0 : w.cell? ⟨p, 2, none⟩ = some (.slice none 0 0)) : Calls Try.prog 42 #[.pointer (some ⟨p, 0, none⟩)] w (RetB w (.slice none 0 0)) := by
  go_enter Try.func42, Try.ntmps42
  go_wp2
  go_loop [3, 4] (fun o i => o = .slice none 0 0 ∧ i = .int .i64 0) (fun _ _ => 0)
  case atStart => exact ⟨rfl, rfl⟩
  case round =>
    obtain ⟨rfl, rfl⟩ := hrel
    go_wp2
    go_ret
    exact ⟨rfl, Below.refl _ _⟩
theorem markedInts_nil (w : World) : Calls Try.prog 50 #[.slice none 0 0] w (RetB w (.bool true)) := by
  go_enter Try.func50, Try.ntmps50
  go_wp2
  go_loop [3] (fun i => i = .int .i64 0) (fun _ => 0)
  case atStart => rfl
  case round =>
    subst hrel
    go_wp2
    go_ret
    exact ⟨rfl, Below.refl _ _⟩
theorem stillRecords_nil (p : Nat) (w : World) (c0 : w.cell? ⟨p, 4, none⟩ = some (.slice none 0 0)) : Calls Try.prog 27 #[.pointer (some ⟨p, 0, none⟩)] w (RetB w (.bool true)) := by
  go_enter Try.func27, Try.ntmps27
  go_wp2
  go_loop [3] (fun i => i = .int .i64 0) (fun _ => 0)
  case atStart => rfl
  case round =>
    subst hrel
    go_wp2
    go_ret
    exact ⟨rfl, Below.refl _ _⟩
theorem putRecords_nil (p : Nat) (w : World) (c0 : w.cell? ⟨p, 4, none⟩ = some (.slice none 0 0)) : Calls Try.prog 36 #[.pointer (some ⟨p, 0, none⟩)] w (RetB w (.tuple #[])) := by
  go_enter Try.func36, Try.ntmps36
  go_wp2
  go_loop [2] (fun i => i = .int .i64 0) (fun _ => 0)
  case atStart => rfl
  case round =>
    subst hrel
    go_wp2
    go_end0
    exact ⟨rfl, Below.refl _ _⟩
theorem growRecords_nil (p : Nat) (w : World) (c0 : w.cell? ⟨p, 4, none⟩ = some (.slice none 0 0)) : Calls Try.prog 43 #[.pointer (some ⟨p, 0, none⟩)] w (RetB w (.slice none 0 0)) := by
  go_enter Try.func43, Try.ntmps43
  go_wp2
  go_loop [3, 4] (fun o i => o = .slice none 0 0 ∧ i = .int .i64 0) (fun _ _ => 0)
  case atStart => exact ⟨rfl, rfl⟩
  case round =>
    obtain ⟨rfl, rfl⟩ := hrel
    go_wp2
    go_ret
    exact ⟨rfl, Below.refl _ _⟩
theorem markedRecords_nil (w : World) : Calls Try.prog 51 #[.slice none 0 0] w (RetB w (.bool true)) := by
  go_enter Try.func51, Try.ntmps51
  go_wp2
  go_loop [3] (fun i => i = .int .i64 0) (fun _ => 0)
  case atStart => rfl
  case round =>
    subst hrel
    go_wp2
    go_ret
    exact ⟨rfl, Below.refl _ _⟩
theorem stillSamples_nil (p : Nat) (w : World) (c0 : w.cell? ⟨p, 6, none⟩ = some (.slice none 0 0)) : Calls Try.prog 28 #[.pointer (some ⟨p, 0, none⟩)] w (RetB w (.bool true)) := by
  go_enter Try.func28, Try.ntmps28
  go_wp2
  go_loop [3] (fun i => i = .int .i64 0) (fun _ => 0)
  case atStart => rfl
  case round =>
    subst hrel
    go_wp2
    go_ret
    exact ⟨rfl, Below.refl _ _⟩
theorem putSamples_nil (p : Nat) (w : World) (c0 : w.cell? ⟨p, 6, none⟩ = some (.slice none 0 0)) : Calls Try.prog 37 #[.pointer (some ⟨p, 0, none⟩)] w (RetB w (.tuple #[])) := by
  go_enter Try.func37, Try.ntmps37
  go_wp2
  go_loop [2] (fun i => i = .int .i64 0) (fun _ => 0)
  case atStart => rfl
  case round =>
    subst hrel
    go_wp2
    go_end0
    exact ⟨rfl, Below.refl _ _⟩
theorem growSamples_nil (p : Nat) (w : World) (c0 : w.cell? ⟨p, 6, none⟩ = some (.slice none 0 0)) : Calls Try.prog 44 #[.pointer (some ⟨p, 0, none⟩)] w (RetB w (.slice none 0 0)) := by
  go_enter Try.func44, Try.ntmps44
  go_wp2
  go_loop [3, 4] (fun o i => o = .slice none 0 0 ∧ i = .int .i64 0) (fun _ _ => 0)
  case atStart => exact ⟨rfl, rfl⟩
  case round =>
    obtain ⟨rfl, rfl⟩ := hrel
    go_wp2
    go_ret
    exact ⟨rfl, Below.refl _ _⟩
theorem markedSamples_nil (w : World) : Calls Try.prog 52 #[.slice none 0 0] w (RetB w (.bool true)) := by
  go_enter Try.func52, Try.ntmps52
  go_wp2
  go_loop [3] (fun i => i = .int .i64 0) (fun _ => 0)
  case atStart => rfl
  case round =>
    subst hrel
    go_wp2
    go_ret
    exact ⟨rfl, Below.refl _ _⟩
theorem stillTiers_nil (p : Nat) (w : World) (c0 : w.cell? ⟨p, 8, none⟩ = some (.slice none 0 0)) : Calls Try.prog 29 #[.pointer (some ⟨p, 0, none⟩)] w (RetB w (.bool true)) := by
  go_enter Try.func29, Try.ntmps29
  go_wp2
  go_loop [3] (fun i => i = .int .i64 0) (fun _ => 0)
  case atStart => rfl
  case round =>
    subst hrel
    go_wp2
    go_ret
    exact ⟨rfl, Below.refl _ _⟩
theorem putTiers_nil (p : Nat) (w : World) (c0 : w.cell? ⟨p, 8, none⟩ = some (.slice none 0 0)) : Calls Try.prog 38 #[.pointer (some ⟨p, 0, none⟩)] w (RetB w (.tuple #[])) := by
  go_enter Try.func38, Try.ntmps38
  go_wp2
  go_loop [2] (fun i => i = .int .i64 0) (fun _ => 0)
  case atStart => rfl
  case round =>
    subst hrel
    go_wp2
    go_end0
    exact ⟨rfl, Below.refl _ _⟩
theorem growTiers_nil (p : Nat) (w : World) (c0 : w.cell? ⟨p, 8, none⟩ = some (.slice none 0 0)) : Calls Try.prog 45 #[.pointer (some ⟨p, 0, none⟩)] w (RetB w (.slice none 0 0)) := by
  go_enter Try.func45, Try.ntmps45
  go_wp2
  go_loop [3, 4] (fun o i => o = .slice none 0 0 ∧ i = .int .i64 0) (fun _ _ => 0)
  case atStart => exact ⟨rfl, rfl⟩
  case round =>
    obtain ⟨rfl, rfl⟩ := hrel
    go_wp2
    go_ret
    exact ⟨rfl, Below.refl _ _⟩
theorem markedTiers_nil (w : World) : Calls Try.prog 53 #[.slice none 0 0] w (RetB w (.bool true)) := by
  go_enter Try.func53, Try.ntmps53
  go_wp2
  go_loop [3] (fun i => i = .int .i64 0) (fun _ => 0)
  case atStart => rfl
  case round =>
    subst hrel
    go_wp2
    go_ret
    exact ⟨rfl, Below.refl _ _⟩
theorem stillErrnos_nil (p : Nat) (w : World) (c0 : w.cell? ⟨p, 10, none⟩ = some (.slice none 0 0)) : Calls Try.prog 30 #[.pointer (some ⟨p, 0, none⟩)] w (RetB w (.bool true)) := by
  go_enter Try.func30, Try.ntmps30
  go_wp2
  go_loop [3] (fun i => i = .int .i64 0) (fun _ => 0)
  case atStart => rfl
  case round =>
    subst hrel
    go_wp2
    go_ret
    exact ⟨rfl, Below.refl _ _⟩
theorem putErrnos_nil (p : Nat) (w : World) (c0 : w.cell? ⟨p, 10, none⟩ = some (.slice none 0 0)) : Calls Try.prog 39 #[.pointer (some ⟨p, 0, none⟩)] w (RetB w (.tuple #[])) := by
  go_enter Try.func39, Try.ntmps39
  go_wp2
  go_loop [2] (fun i => i = .int .i64 0) (fun _ => 0)
  case atStart => rfl
  case round =>
    subst hrel
    go_wp2
    go_end0
    exact ⟨rfl, Below.refl _ _⟩
theorem growErrnos_nil (p : Nat) (w : World) (c0 : w.cell? ⟨p, 10, none⟩ = some (.slice none 0 0)) : Calls Try.prog 46 #[.pointer (some ⟨p, 0, none⟩)] w (RetB w (.slice none 0 0)) := by
  go_enter Try.func46, Try.ntmps46
  go_wp2
  go_loop [3, 4] (fun o i => o = .slice none 0 0 ∧ i = .int .i64 0) (fun _ _ => 0)
  case atStart => exact ⟨rfl, rfl⟩
  case round =>
    obtain ⟨rfl, rfl⟩ := hrel
    go_wp2
    go_ret
    exact ⟨rfl, Below.refl _ _⟩
theorem markedErrnos_nil (w : World) : Calls Try.prog 54 #[.slice none 0 0] w (RetB w (.bool true)) := by
  go_enter Try.func54, Try.ntmps54
  go_wp2
  go_loop [3] (fun i => i = .int .i64 0) (fun _ => 0)
  case atStart => rfl
  case round =>
    subst hrel
    go_wp2
    go_ret
    exact ⟨rfl, Below.refl _ _⟩
theorem stillWords_nil (p : Nat) (w : World) (c0 : w.cell? ⟨p, 12, none⟩ = some (.slice none 0 0)) : Calls Try.prog 31 #[.pointer (some ⟨p, 0, none⟩)] w (RetB w (.bool true)) := by
  go_enter Try.func31, Try.ntmps31
  go_wp2
  go_loop [3] (fun i => i = .int .i64 0) (fun _ => 0)
  case atStart => rfl
  case round =>
    subst hrel
    go_wp2
    go_ret
    exact ⟨rfl, Below.refl _ _⟩
theorem putWords_nil (p : Nat) (w : World) (c0 : w.cell? ⟨p, 12, none⟩ = some (.slice none 0 0)) : Calls Try.prog 40 #[.pointer (some ⟨p, 0, none⟩)] w (RetB w (.tuple #[])) := by
  go_enter Try.func40, Try.ntmps40
  go_wp2
  go_loop [2] (fun i => i = .int .i64 0) (fun _ => 0)
  case atStart => rfl
  case round =>
    subst hrel
    go_wp2
    go_end0
    exact ⟨rfl, Below.refl _ _⟩
theorem growWords_nil (p : Nat) (w : World) (c0 : w.cell? ⟨p, 12, none⟩ = some (.slice none 0 0)) : Calls Try.prog 47 #[.pointer (some ⟨p, 0, none⟩)] w (RetB w (.slice none 0 0)) := by
  go_enter Try.func47, Try.ntmps47
  go_wp2
  go_loop [3, 4] (fun o i => o = .slice none 0 0 ∧ i = .int .i64 0) (fun _ _ => 0)
  case atStart => exact ⟨rfl, rfl⟩
  case round =>
    obtain ⟨rfl, rfl⟩ := hrel
    go_wp2
    go_ret
    exact ⟨rfl, Below.refl _ _⟩
theorem markedWords_nil (w : World) : Calls Try.prog 55 #[.slice none 0 0] w (RetB w (.bool true)) := by
  go_enter Try.func55, Try.ntmps55
  go_wp2
  go_loop [3] (fun i => i = .int .i64 0) (fun _ => 0)
  case atStart => rfl
  case round =>
    subst hrel
    go_wp2
    go_ret
    exact ⟨rfl, Below.refl _ _⟩
theorem stillSteps_nil (p : Nat) (w : World) (c0 : w.cell? ⟨p, 14, none⟩ = some (.slice none 0 0)) : Calls Try.prog 32 #[.pointer (some ⟨p, 0, none⟩)] w (RetB w (.bool true)) := by
  go_enter Try.func32, Try.ntmps32
  go_wp2
  go_loop [3] (fun i => i = .int .i64 0) (fun _ => 0)
  case atStart => rfl
  case round =>
    subst hrel
    go_wp2
    go_ret
    exact ⟨rfl, Below.refl _ _⟩
theorem putSteps_nil (p : Nat) (w : World) (c0 : w.cell? ⟨p, 14, none⟩ = some (.slice none 0 0)) : Calls Try.prog 33 #[.pointer (some ⟨p, 0, none⟩)] w (RetB w (.tuple #[])) := by
  go_enter Try.func33, Try.ntmps33
  go_wp2
  go_loop [2] (fun i => i = .int .i64 0) (fun _ => 0)
  case atStart => rfl
  case round =>
    subst hrel
    go_wp2
    go_end0
    exact ⟨rfl, Below.refl _ _⟩
theorem growSteps_nil (p : Nat) (w : World) (c0 : w.cell? ⟨p, 14, none⟩ = some (.slice none 0 0)) : Calls Try.prog 48 #[.pointer (some ⟨p, 0, none⟩)] w (RetB w (.slice none 0 0)) := by
  go_enter Try.func48, Try.ntmps48
  go_wp2
  go_loop [3, 4] (fun o i => o = .slice none 0 0 ∧ i = .int .i64 0) (fun _ _ => 0)
  case atStart => exact ⟨rfl, rfl⟩
  case round =>
    obtain ⟨rfl, rfl⟩ := hrel
    go_wp2
    go_ret
    exact ⟨rfl, Below.refl _ _⟩
theorem markedSteps_nil (w : World) : Calls Try.prog 56 #[.slice none 0 0] w (RetB w (.bool true)) := by
  go_enter Try.func56, Try.ntmps56
  go_wp2
  go_loop [3] (fun i => i = .int .i64 0) (fun _ => 0)
  case atStart => rfl
  case round =>
    subst hrel
    go_wp2
    go_ret
    exact ⟨rfl, Below.refl _ _⟩
end Go.Proofs.Ytkgcebcbkdkanaa
