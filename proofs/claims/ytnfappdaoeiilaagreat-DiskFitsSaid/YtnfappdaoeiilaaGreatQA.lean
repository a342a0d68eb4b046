/- Written for this claim: what the printed functions of a formatted device come to, in plain Lean. -/
import Derived.Test.YtnfappdaoeiilaaGreatPDx5
import Derived.Test.YtnfappdaoeiilaaGreatPDx1
import Derived.Test.YtnfappdaoeiilaaGreatPDx2
import Derived.Test.YtnfappdaoeiilaaGreatPDx4
import Derived.Test.YtnfappdaoeiilaaGreatHMount
import Derived.Test.YtnfappdaoeiilaaGreatHNew
namespace Go.Proofs.YtnfappdaoeiilaaGreat.Q
open Go.RowKit Go.Proofs.YtnfappdaoeiilaaGreat.PD Go.Proofs.YtnfappdaoeiilaaGreatW.PrintWords Go.Proofs.YtnfappdaoeiilaaGreatW.PrintLast Go.Proofs.YtnfappdaoeiilaaGreatW.PrintMore
set_option linter.unusedVariables false
set_option linter.unusedSimpArgs false

/-- With enough rounds the answer is r. -/
def Evt {α : Type} (g : Nat → Option α) (r : α) : Prop := ∃ n, ∀ k, n ≤ k → g k = some r
theorem Evt.const {α : Type} (r : α) : Evt (fun _ => some r) r := ⟨0, fun _ _ => rfl⟩
theorem Evt.eq {α : Type} {g : Nat → Option α} {r : α} (h : ∀ k, g k = some r) : Evt g r := ⟨0, fun k _ => h k⟩
theorem Evt.bind {α β : Type} {g : Nat → Option α} {h : Nat → α → Option β} {a : α} {r : β} (h1 : Evt g a) (h2 : Evt (fun k => h k a) r) : Evt (fun k => (g k).bind (h k)) r := by
  obtain ⟨n, hn⟩ := h1
  obtain ⟨m, hm⟩ := h2
  exact ⟨max n m, fun k hk => by show (g k).bind (h k) = some r; rw [hn k (by omega)]; exact hm k (by omega)⟩
theorem Evt.succ {α : Type} {g g' : Nat → Option α} {r : α} (h : Evt g r) (hs : ∀ k, g' (k + 1) = g k) : Evt g' r := by
  obtain ⟨n, hn⟩ := h
  refine ⟨n + 1, fun k hk => ?_⟩
  obtain ⟨m, rfl⟩ : ∃ m, k = m + 1 := ⟨k - 1, by omega⟩
  rw [hs]; exact hn m (by omega)
theorem Evt.congr {α : Type} {g g' : Nat → Option α} {r : α} (h : Evt g r) (hs : ∀ k, g' k = g k) : Evt g' r := by
  obtain ⟨n, hn⟩ := h
  exact ⟨n, fun k hk => by rw [hs]; exact hn k hk⟩
theorem Evt.of_mono {α : Type} {g : Nat → Option α} {r : α} (hm : ∀ k, LeO (g k) (g (k + 1))) {n : Nat} (h : g n = some r) : Evt g r := by
  refine ⟨n, fun k hk => ?_⟩
  obtain ⟨d, rfl⟩ := Nat.le.dest hk
  induction d with
  | zero => exact h
  | succ d ih => exact hm _ _ (ih (by omega))

theorem Evt.pos {α : Type} {c : Prop} [Decidable c] {g g' : Nat → Option α} {r : α} (hc : c) (h : Evt g r) : Evt (fun k => if c then g k else g' k) r := h.congr fun _ => if_pos hc
theorem Evt.neg {α : Type} {c : Prop} [Decidable c] {g g' : Nat → Option α} {r : α} (hc : ¬ c) (h : Evt g' r) : Evt (fun k => if c then g k else g' k) r := h.congr fun _ => if_neg hc

/-! ### Fits -/
theorem all4 (a b c d : Bool) : Evt (fun k => disk_all.f k [a, b, c, d]) (a && b && c && d) := by
  cases a <;> cases b <;> cases c <;> cases d <;> exact Evt.of_mono (disk_all.mono _) (n := 10) (by decide +kernel)
def fitsB (B P S R : Int) : Bool := decide (1 ≤ B ∧ B ≤ 32 ∧ 2 ≤ P ∧ P ≤ 16 ∧ 1 ≤ S ∧ S ≤ 64 ∧ 0 ≤ R ∧ R ≤ 32 ∧ 2 * S < (B - 2 * R - 3) * P)
theorem within_eq (a b c : Int) : disk_within.f a b c = some (decide (b ≤ a) && decide (a ≤ c)) := by
  unfold disk_within.f
  by_cases h : a ≥ b
  · rw [if_pos h]; have : decide (b ≤ a) = true := by simpa using h
    rw [this]; rfl
  · rw [if_neg h]; have : decide (b ≤ a) = false := by simpa using h
    rw [this]; rfl
theorem w64 {x : Int} (h1 : -9223372036854775808 ≤ x) (h2 : x ≤ 9223372036854775807) : wrap64 x = x := by unfold wrap64; omega
theorem fits_ev (B P S R : Int) : Evt (fun k => disk_Fits.f k B P S R) (fitsB B P S R) := by
  unfold disk_Fits.f
  simp only [within_eq, Option.bind_some]
  refine Evt.bind (all4 _ _ _ _) ?_
  by_cases h : (1 ≤ B ∧ B ≤ 32) ∧ (2 ≤ P ∧ P ≤ 16) ∧ (1 ≤ S ∧ S ≤ 64) ∧ (0 ≤ R ∧ R ≤ 32)
  · obtain ⟨⟨h1, h2⟩, ⟨h3, h4⟩, ⟨h5, h6⟩, ⟨h7, h8⟩⟩ := h
    have e : (decide (1 ≤ B) && decide (B ≤ 32) && (decide (2 ≤ P) && decide (P ≤ 16)) && (decide (1 ≤ S) && decide (S ≤ 64)) && (decide (0 ≤ R) && decide (R ≤ 32))) = true := by
      simp [h1, h2, h3, h4, h5, h6, h7, h8]
    rw [e]
    simp only [if_true]
    refine Evt.eq fun k => ?_
    congr 1
    rw [w64 (x := 2 * R) (by omega) (by omega), w64 (x := B - 2 * R) (by omega) (by omega), w64 (x := B - 2 * R - 3) (by omega) (by omega), w64 (x := 2 * S) (by omega) (by omega)]
    have hp : P = 2 ∨ P = 3 ∨ P = 4 ∨ P = 5 ∨ P = 6 ∨ P = 7 ∨ P = 8 ∨ P = 9 ∨ P = 10 ∨ P = 11 ∨ P = 12 ∨ P = 13 ∨ P = 14 ∨ P = 15 ∨ P = 16 := by omega
    have hw : wrap64 ((B - 2 * R - 3) * P) = (B - 2 * R - 3) * P := by
      rcases hp with rfl | rfl | rfl | rfl | rfl | rfl | rfl | rfl | rfl | rfl | rfl | rfl | rfl | rfl | rfl <;> exact w64 (by omega) (by omega)
    rw [hw]
    unfold fitsB
    simp [h1, h2, h3, h4, h5, h6, h7, h8]
  · have e : (decide (1 ≤ B) && decide (B ≤ 32) && (decide (2 ≤ P) && decide (P ≤ 16)) && (decide (1 ≤ S) && decide (S ≤ 64)) && (decide (0 ≤ R) && decide (R ≤ 32))) = false := by
      rw [Bool.eq_false_iff]; intro h'; apply h; simp at h'; omega
    rw [e]
    refine Evt.eq fun k => ?_
    rw [if_neg (by simp)]
    congr 1
    symm
    unfold fitsB
    rw [decide_eq_false_iff_not]
    intro h'; apply h; omega
end Go.Proofs.YtnfappdaoeiilaaGreat.Q
