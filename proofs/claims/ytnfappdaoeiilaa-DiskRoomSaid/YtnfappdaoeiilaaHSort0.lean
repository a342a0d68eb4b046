/- Written for this claim by hand: slices.SortFunc of nothing does nothing. -/
import Derived.Test.YtnfappdaoeiilaaPDx0
import Derived.LoopN
namespace Go.Proofs.Ytnfappdaoeiilaa.PD
open Go.RowKit Go.Proofs.YtnfappdaoeiilaaW.PrintWords Go.Proofs.YtnfappdaoeiilaaW.PrintLast Go.Proofs.YtnfappdaoeiilaaW.PrintMore
set_option linter.unusedVariables false
set_option linter.unusedSimpArgs false
set_option maxHeartbeats 2000000 in
theorem ins0_calls (f : Value) (w : World) :
    Calls Try.prog 53 #[.slice none 0 0, .int .i64 0, .int .i64 0, f] w fun e w' => (∃ v, e = .returned v) ∧ Below w.heap.size w w' := by
  go_enter Try.func53, Try.ntmps53
  go_wp2
  refine wp_loop_rounds 1 ?_
  rw [rounds_succ]
  go_wp2
  refine bodyPost_end (results_none rfl _ _ _) rfl ?_
  exact ⟨⟨_, rfl⟩, Below.refl _ _⟩
set_option maxRecDepth 100000 in
set_option maxHeartbeats 4000000 in
theorem len0_calls (w : World) :
    Calls Try.prog 48 #[.int .u64 0] w fun e w' => (∃ n : Int, e = .returned (.int .i64 n)) ∧ w = w' := by
  go_enter Try.func48, Try.ntmps48
  go_wp2
  go_ret
  exact ⟨⟨_, rfl⟩, rfl⟩
set_option maxHeartbeats 4000000 in
theorem pdq0_calls (f : Value) (m : Int) (w : World) :
    Calls Try.prog 47 #[.slice none 0 0, .int .i64 0, .int .i64 0, .int .i64 m, f] w fun e w' => (∃ v, e = .returned v) ∧ Below w.heap.size w w' := by
  go_enter Try.func47, Try.ntmps47
  go_wp2_with fail
  refine wp_loop_rounds 1 ?_
  rw [rounds_succ]
  go_wp2_with (go_at_call 53; refine (ins0_calls _ _).mono ?_; rintro e w' ⟨⟨v, rfl⟩, hb⟩)
  refine bodyPost_ret (results_none rfl _ _ _) rfl ?_
  exact ⟨⟨_, rfl⟩, by assumption⟩
set_option maxHeartbeats 4000000 in
theorem sort0_calls (f : Value) (w : World) :
    Calls Try.prog 37 #[.slice none 0 0, f] w fun e w' => (∃ v, e = .returned v) ∧ Below w.heap.size w w' := by
  go_enter Try.func37, Try.ntmps37
  go_wp2_with (first | (go_at_call 48; refine (len0_calls _).mono ?_; rintro e w' ⟨⟨n, rfl⟩, rfl⟩) | (go_at_call 47; refine (pdq0_calls _ _ _).mono ?_; rintro e w' ⟨⟨v, rfl⟩, hb⟩))
  refine bodyPost_end (results_none rfl _ _ _) rfl ?_
  exact ⟨⟨_, rfl⟩, by assumption⟩
end Go.Proofs.Ytnfappdaoeiilaa.PD
