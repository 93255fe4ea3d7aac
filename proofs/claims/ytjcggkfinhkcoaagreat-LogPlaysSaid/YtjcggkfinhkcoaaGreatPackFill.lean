/-
  The contract of pack.Packer's Fill.
-/
import Derived.Test.YtjcggkfinhkcoaaGreatPack
import Derived.Test.YtjcggkfinhkcoaaGreatPackSmall
namespace Go.Proofs.YtjcggkfinhkcoaaGreat
open Go.RowKit
set_option linter.unusedVariables false
set_option linter.unusedSimpArgs false

theorem low_zero : ∀ n : Nat, lowBytes 0 n = List.replicate n 0
  | 0 => rfl
  | n + 1 => by
    rw [List.replicate_succ, ← low_zero n]; rfl
set_option maxRecDepth 100000 in
set_option maxHeartbeats 1000000 in
theorem pfill_any (p : Nat) (n : Nat) (l : List UInt8) (w : World) (hP : PackAt w p 0 l) (hn : n ≤ 60000) (hl : l.length ≤ n) :
    Calls Tryz.prog 102 #[.pointer (some ⟨p, 0, none⟩), .int .i64 n] w (fun e' w' => e' = .returned (.tuple #[]) ∧ PackAt w' p 0 (l ++ List.replicate (n - l.length) 0) ∧ PackStep p w w') := by
  have HP := Lib.hid hP
  have hc : ∃ va ca, w.cell? ⟨p, 1, none⟩ = some (.slice va l.length ca) := by
    obtain ⟨vb, hblk, hown⟩ := hP
    obtain ⟨va, ca, rfl⟩ := own_form hown
    exact ⟨va, ca, by rw [cell_of_row w p _ _ _ _ hblk]; rfl⟩
  obtain ⟨va, ca, c1⟩ := hc
  have hn' : (n : Int) ≤ 60000 := by omega
  have hl' : (l.length : Int) ≤ n := by omega
  clear hP
  go_enter Tryz.func102, Tryz.ntmps102
  go_wp2_with fail
  refine HP.out.fail.mono ?_
  rintro e w1 ⟨rfl, hb⟩
  have HP1 := Lib.hid (HP.out.keep hb)
  have HS1 := Lib.hid (PackStep.of_below hb HP.out.lt)
  have c1' := cell_step c1 hb
  clear hb c1
  go_wp2_with fail
  rw [show (n : Int) - l.length = ((n - l.length : Nat) : Int) by omega]
  refine (low_any p (n - l.length) 0 0 l _ HP1.out (by omega) (by omega) (by omega)).mono ?_
  rintro e w2 ⟨rfl, hp, hs⟩
  rw [low_zero] at hp
  have HP2 := Lib.hid hp
  have HS2 := Lib.hid (HS1.out.trans hs)
  clear hp hs
  go_wp2
  go_end0
  exact ⟨rfl, HP2.out, HS2.out⟩
end Go.Proofs.YtjcggkfinhkcoaaGreat
