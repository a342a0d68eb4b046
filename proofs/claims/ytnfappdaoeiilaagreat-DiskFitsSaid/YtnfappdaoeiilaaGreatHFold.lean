/- Written for this claim: replay.fold over no pages. -/
import Derived.Test.YtnfappdaoeiilaaGreatPDx0
import Derived.Test.YtnfappdaoeiilaaGreatHA
namespace Go.Proofs.YtnfappdaoeiilaaGreat.PD
open Go.RowKit Go.Proofs.YtnfappdaoeiilaaGreatW.PrintWords Go.Proofs.YtnfappdaoeiilaaGreatW.PrintLast Go.Proofs.YtnfappdaoeiilaaGreatW.PrintMore
set_option linter.unusedVariables false
set_option linter.unusedSimpArgs false
def foldT.f (l : List S94) (m b : List Int) : Option (List Int × List Int) := if l.isEmpty = true then some (m, b) else none
def foldI.f (l : List S94) (s : Int) : Option Int := if l.isEmpty = true then some s else none
set_option maxHeartbeats 2000000 in
theorem foldI.calls (A0 : Option Addr) (c0 : Nat) (l0 : List S94) (a1 : Int) (r : Int) (w : World) (hr0 : Kd.C k94 w A0 l0.length l0) (hc0 : l0.length ≤ c0) (h : foldI.f l0 a1 = some r) :
    Calls Tryz.prog 56 #[.slice A0 l0.length c0, .int .i64 a1, .func (.func 52) #[] #[]] w fun e w' => e = .returned (.int .i64 r) ∧ Below w.heap.size w w' := by
  cases l0 with
  | cons x xs => simp [foldI.f] at h
  | nil =>
    simp [foldI.f] at h
    subst h
    clear hr0 hc0
    have hd : decide ((0 : Int) < 0) = false := rfl
    go_enter Tryz.func56, Tryz.ntmps56
    go_wp2
    refine wp_loop_rounds 1 ?_
    rw [rounds_succ]
    go_wp2
    go_ret
    exact ⟨rfl, Below.refl _ _⟩
set_option maxHeartbeats 2000000 in
theorem foldT.calls (A0 : Option Addr) (c0 : Nat) (l0 : List (S94)) (P1_0_ : Nat → Prop) (u9000_ : Value) (l1_0 : List Int) (P1_1_ : Nat → Prop) (u9001_ : Value) (l1_1 : List Int) (r1 : List Int) (r2 : List Int) (w0 w : World) (hB : Below w0.heap.size w0 w) (hr0 : ∀ W_, Kept w W_ (fun k_ => P1_0_ k_ ∨ P1_1_ k_) → Kd.C k94 W_ A0 l0.length l0) (hc0 : l0.length ≤ c0) (ho1_0 : Kd.R (Kd.int .i64) 3 w w0.heap.size P1_0_ u9000_ l1_0) (hp1_0_1_1 : ∀ k_, P1_0_ k_ → ¬ P1_1_ k_) (ho1_1 : Kd.R (Kd.int .i64) 3 w w0.heap.size P1_1_ u9001_ l1_1) (hp1_1_1_0 : ∀ k_, P1_1_ k_ → ¬ P1_0_ k_) (h : foldT.f l0 l1_0 l1_1 = some (r1, r2)) :
    Calls Tryz.prog 53 #[.slice A0 l0.length c0, .agg #[u9000_, u9001_], .func (.func 55) #[] #[]] w fun e w' => ∃ v0_ v1_ : Value, e = .returned (.agg #[v0_, v1_]) ∧ Kd.R (Kd.int .i64) 3 w' w0.heap.size (fun k_ => ((P1_0_ k_ ∨ P1_1_ k_) ∨ w.heap.size ≤ k_) ∧ some k_ ≠ (v1_ : Value).ownBlock) v0_ r1 ∧ Kd.R (Kd.int .i64) 3 w' w0.heap.size (fun k_ => ((P1_0_ k_ ∨ P1_1_ k_) ∨ w.heap.size ≤ k_) ∧ some k_ ≠ (v0_ : Value).ownBlock) v1_ r2 ∧ Below w0.heap.size w0 w' ∧ Kept w w' (fun k_ => P1_0_ k_ ∨ P1_1_ k_) := by
  cases l0 with
  | cons x xs => simp [foldT.f] at h
  | nil =>
    simp [foldT.f] at h
    obtain ⟨rfl, rfl⟩ := h
    have A1 := Aside0.mk ho1_0
    have A2 := Aside0.mk ho1_1
    have A3 := Aside0.mk hB
    obtain ⟨B0, d0, e0⟩ := Kd.R_slice ho1_0
    obtain ⟨B1, d1, e1⟩ := Kd.R_slice ho1_1
    subst e0 e1
    clear hr0 hc0 ho1_0 ho1_1 hB
    go_enter Tryz.func53, Tryz.ntmps53
    go_wp2
    refine wp_loop_rounds 1 ?_
    rw [rounds_succ]
    go_wp2
    have hb : Below w.heap.size w ((w.alloc (Obj.cells #[Value.slice B0 l1_0.length d0, Value.slice B1 l1_1.length d1] 30)).alloc (Obj.cells #[Value.slice B0 l1_0.length d0, Value.slice B1 l1_1.length d1] 30)) := ((Below.refl _ _).alloc (Nat.le_refl _) _).alloc (by simp) _
    refine bodyPost_ret (results_cell_row rfl _ _ (w.heap.size + 1) 30 #[.slice B0 l1_0.length d0, .slice B1 l1_1.length d1] (0, 0) _ rfl (by have := heap_alloc_new (w.alloc (Obj.cells #[Value.slice B0 l1_0.length d0, Value.slice B1 l1_1.length d1] 30)) (Obj.cells #[Value.slice B0 l1_0.length d0, Value.slice B1 l1_1.length d1] 30); simpa using this) Tryz.underlying30 rfl (by kernel_rfl)) rfl ?_
    refine ⟨_, _, rfl, ?_, ?_, ?_, ?_⟩
    · exact Kd.R_mono (Kd.R_below A1.out hb) (fun k hk => ⟨.inl (.inl hk), fun e => hp1_0_1_1 k hk (A2.out.1 k e.symm)⟩)
    · exact Kd.R_mono (Kd.R_below A2.out hb) (fun k hk => ⟨.inl (.inr hk), fun e => hp1_1_1_0 k hk (A1.out.1 k e.symm)⟩)
    · exact A3.out.trans (hb.mono A3.out.size)
    · exact ⟨hb.size, fun i hi _ => hb.block i hi⟩
end Go.Proofs.YtnfappdaoeiilaaGreat.PD
