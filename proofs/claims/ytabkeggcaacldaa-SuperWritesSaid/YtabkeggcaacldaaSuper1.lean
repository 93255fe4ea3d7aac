/-
  The contracts of super.Plan and of the law package's plan.
-/
import Derived.Test.YtabkeggcaacldaaDev1
import Derived.Laws.ResultCell
namespace Go.Proofs.Ytabkeggcaacldaa
open Go.RowKit
set_option linter.unusedVariables false
set_option linter.unusedSimpArgs false

/-- Two results, the first a named one that is a struct in a block. -/
theorem results_row_tmp {P : Program} {fn : Func} {p u : Tmp} {ty : TypeId} (h : fn.results = #[.cell p ty, .tmp u]) (tmps : Array Value) (w : World) (g : Nat) (t : TypeId) (cs : Array Value) (fr : Nat × Nat) (d : TypeDesc) (x : Value)
    (hp : tmps.getD p undef = .pointer (some ⟨g, 0, none⟩)) (hx : tmps.getD u undef = x) (hg : w.heap[g]? = some (.cells cs t fr))
    (hu : P.underlying ty = some d) (hd : (match d with | .struct _ | .array _ _ => true | _ => false) = true) (hi : (P.info? ty).map (·.size) = some cs.size) :
    (results fn tmps).run P w = .ok (.tuple #[.agg cs, x]) w := by
  rw [results_cell_tmp h, hp, hx]
  simp [asAddr, Result.andThen, run_loadVar_row w g t ty cs fr d hg hu hd hi]
def planOk (n : Int) : Prop := 64 ≤ n ∧ n ≤ 4096
def layV (n : Int) : Value := .agg #[.int .i64 n, .int .i64 2, .int .i64 18, .int .i64 (18 + (n / 200 + 10)), .int .i64 (n / 200 + 10), .int .i64 (18 + 2 * (n / 200 + 10)), .int .i64 ((n - (18 + 2 * (n / 200 + 10))) / 2)]
def lay0 : Value := .agg #[.int .i64 0, .int .i64 0, .int .i64 0, .int .i64 0, .int .i64 0, .int .i64 0, .int .i64 0]

set_option maxRecDepth 100000 in
set_option maxHeartbeats 1000000 in
theorem plan_no (n : Int) (w : World) (hn : I64 n) (h : ¬ planOk n) : Calls Try.prog 10 #[.int .i64 n] w (RetB w (.tuple #[lay0, .int .i64 1])) := by
  unfold I64 at hn
  unfold planOk at h
  by_cases g1 : n < 64
  all_goals by_cases g2 : 4096 < n
  all_goals first
    | (exfalso; omega)
    | (clear h
       go_enter Try.func10, Try.ntmps10
       go_wp2
       refine bodyPost_ret (v := .tuple #[lay0, .int .i64 1]) (results_row_tmp Try.results10 _ _ w.heap.size 27 _ (0, 0) _ _ rfl rfl (heap_alloc_new _ _) Try.underlying27 rfl (by kernel_rfl)) rfl ?_
       exact ⟨rfl, bel_new _ _⟩)
set_option maxRecDepth 100000 in
set_option maxHeartbeats 1000000 in
theorem plan_yes (n : Int) (w : World) (h : planOk n) : Calls Try.prog 10 #[.int .i64 n] w (RetB w (.tuple #[layV n, .int .i64 0])) := by
  obtain ⟨g1, g2⟩ := h
  have he : layV n = .agg #[.int .i64 n, .int .i64 2, .int .i64 18, .int .i64 (18 + (n / 200 + 10)), .int .i64 (n / 200 + 10), .int .i64 (18 + (n / 200 + 10) + (n / 200 + 10)), .int .i64 ((n - (18 + (n / 200 + 10) + (n / 200 + 10))) / 2)] := by
    unfold layV
    rw [show 18 + 2 * (n / 200 + 10) = 18 + (n / 200 + 10) + (n / 200 + 10) by omega]
  rw [he]
  go_enter Try.func10, Try.ntmps10
  go_wp2
  refine bodyPost_ret (v := .tuple #[_, .int .i64 0]) (results_row_tmp Try.results10 _ _ w.heap.size 27 _ (0, 0) _ _ rfl rfl (below_at (bel_new _ _) (by simp) (heap_alloc_new _ _)) Try.underlying27 rfl (by kernel_rfl)) rfl ?_
  exact ⟨rfl, chain (bel_new _ _) (bel_new _ _)⟩
set_option maxRecDepth 100000 in
set_option maxHeartbeats 1000000 in
theorem lplan_no (n : Int) (w : World) (hn : I64 n) (h : ¬ planOk n) : Calls Try.prog 11 #[.int .i64 n] w (RetB w (.tuple #[lay0, .int .i64 1])) := by
  unfold I64 at hn
  unfold planOk at h
  by_cases g1 : n < 64
  all_goals by_cases g2 : 4096 < n
  all_goals first
    | (exfalso; omega)
    | (clear h
       go_enter Try.func11, Try.ntmps11
       go_wp2
       refine bodyPost_ret (v := .tuple #[lay0, .int .i64 1]) (results_row_tmp Try.results11 _ _ w.heap.size 27 _ (0, 0) _ _ rfl rfl (heap_alloc_new _ _) Try.underlying27 rfl (by kernel_rfl)) rfl ?_
       exact ⟨rfl, bel_new _ _⟩)
set_option maxRecDepth 100000 in
set_option maxHeartbeats 1000000 in
theorem lplan_yes (n : Int) (w : World) (h : planOk n) : Calls Try.prog 11 #[.int .i64 n] w (RetB w (.tuple #[layV n, .int .i64 0])) := by
  obtain ⟨g1, g2⟩ := h
  unfold layV
  go_enter Try.func11, Try.ntmps11
  go_wp2
  refine bodyPost_ret (v := .tuple #[_, .int .i64 0]) (results_row_tmp Try.results11 _ _ w.heap.size 27 _ (0, 0) _ _ rfl rfl (below_at (bel_new _ _) (by simp) (heap_alloc_new _ _)) Try.underlying27 rfl (by kernel_rfl)) rfl ?_
  exact ⟨rfl, chain (bel_new _ _) (bel_new _ _)⟩
end Go.Proofs.Ytabkeggcaacldaa
