/- Written for this claim by hand: slices.IndexFunc and slices.ContainsFunc of []int and of []api.Block, for any predicate that leaves what lies below. -/
import Derived.Test.YtnfappdaoeiilaaGreatPDx0
import Derived.Shelf.Abstract
namespace Go.Proofs.YtnfappdaoeiilaaGreat.PD
open Go.RowKit Go.Proofs.YtnfappdaoeiilaaGreatW.PrintWords Go.Proofs.YtnfappdaoeiilaaGreatW.PrintLast Go.Proofs.YtnfappdaoeiilaaGreatW.PrintMore
set_option linter.unusedVariables false
set_option linter.unusedSimpArgs false

/-- The first place, from i on, at which p holds; -1 if there is none. -/
def idxP {α : Type} (p : α → Bool) : List α → Nat → Int
  | [], _ => -1
  | x :: xs, i => if p x = true then (i : Int) else idxP p xs (i + 1)

theorem idxP_hit {α : Type} (p : α → Bool) (z : α) : ∀ (l : List α) (i k : Nat), k < l.length → p (l.getD k z) = true → (∀ j, j < k → p (l.getD j z) = false) → idxP p l i = ((i + k : Nat) : Int) := by
  intro l
  induction l with
  | nil => intro i k h; simp at h
  | cons x xs ih =>
    intro i k hk hp hn
    cases k with
    | zero => simp at hp; simp [idxP, hp]
    | succ k =>
      have h0 := hn 0 (by omega)
      simp at h0
      have := ih (i + 1) k (by simpa using hk) (by simpa using hp) (fun j hj => by have := hn (j + 1) (by omega); simpa using this)
      simp only [idxP, h0]
      rw [if_neg (by simp), this]
      congr 1; omega
theorem idxP_miss {α : Type} (p : α → Bool) (z : α) : ∀ (l : List α) (i : Nat), (∀ j, j < l.length → p (l.getD j z) = false) → idxP p l i = -1 := by
  intro l
  induction l with
  | nil => intro i h; rfl
  | cons x xs ih =>
    intro i hn
    have h0 := hn 0 (by simp)
    simp at h0
    simp only [idxP, h0]
    rw [if_neg (by simp)]
    exact ih (i + 1) (fun j hj => by have := hn (j + 1) (by simp; omega); simpa using this)
theorem idxP_any {α : Type} (p : α → Bool) : ∀ (l : List α) (i : Nat), decide (0 ≤ idxP p l i) = l.any p := by
  intro l
  induction l with
  | nil => intro i; rfl
  | cons x xs ih =>
    intro i
    cases h : p x with
    | true => simp [idxP, h]
    | false => simp only [idxP, h, List.any_cons, Bool.false_or]; rw [if_neg (by simp)]; exact ih (i + 1)
theorem idxP_lt {α : Type} (p : α → Bool) : ∀ (l : List α) (i : Nat), idxP p l i < ((i + l.length : Nat) : Int) ∨ idxP p l i = -1 := by
  intro l
  induction l with
  | nil => intro i; exact .inr rfl
  | cons x xs ih =>
    intro i
    by_cases h : p x = true
    · left; simp only [idxP, h, if_true, List.length_cons]; omega
    · simp only [idxP]; rw [if_neg h]
      rcases ih (i + 1) with h1 | h1
      · left; simp only [List.length_cons]; omega
      · exact .inr h1

set_option maxHeartbeats 2000000 in
theorem idxI_calls (p : Int → Bool) (g : Nat) (lb : Array Value) (eg : ∀ args w, (callFunc g args).run Tryz.prog w = .ok (.enter g args) w) (A : Option Addr) (c : Nat) (l : List Int) (w : World)
    (hr : Kd.C (Kd.int .i64) w A l.length l) (hc : l.length ≤ c)
    (hp : ∀ (W : World) (x : Int), Below w.heap.size w W → Calls Tryz.prog g (#[.int .i64 x] ++ lb) W fun e W' => e = .returned (.bool (p x)) ∧ Below w.heap.size w W') :
    Calls Tryz.prog 62 #[.slice A l.length c, .func (.func g) #[] lb] w fun e w' => e = .returned (.int .i64 (idxP p l 0)) ∧ Below w.heap.size w w' := by
  have hbig : l.length ≤ 9223372036854775807 := hr.2.1
  have hcell : ∀ (W : World), Below w.heap.size w W → ∀ k : Nat, k < l.length → ∃ ad, A = some ad ∧ W.cell? (ad.add k) = some (.int .i64 (rd l k)) := fun W hW k hk => by
    obtain ⟨ad, e, h⟩ := Kd.at_int hr (k : Int) (by omega) (by omega)
    rw [Int.toNat_natCast] at h
    exact ⟨ad, e, (hW.cell (World.block_lt_of_cell? w _ h)).trans h⟩
  have HR := Aside0.mk hr
  clear hr
  go_enter Tryz.func62, Tryz.ntmps62
  go_wp2
  go_loopg [5, 8] l.length (fun gg _ s8 wr => ∃ kk : Nat, kk ≤ l.length ∧ l.length - kk ≤ gg ∧ s8 = .int .i64 kk ∧ Aside0 (Below w.heap.size w wr) ∧ Aside0 (∀ j, j < kk → p (l.getD j 0) = false))
  case atStart => exact ⟨0, Nat.zero_le _, by omega, rfl, ⟨Below.refl _ w⟩, ⟨fun j hj => absurd hj (Nat.not_lt_zero _)⟩⟩
  case round =>
    obtain ⟨kk, hkk, hg, rfl, BW, AA⟩ := hrel
    by_cases hlt : kk < l.length
    · have hltz : (kk : Int) < (l.length : Int) := by omega
      obtain ⟨ad, rfl, l2⟩ := hcell wr BW.out kk (by omega)
      have hcall := hp wr (rd l kk) BW.out
      clear hcell hp
      have hB : Aside0 (p (l.getD kk 0) = p (rd l kk)) := ⟨rfl⟩
      generalize rd l kk = y at l2 hcall hB
      cases hq : p y with
      | true =>
        rw [hq] at hcall hB
        go_wp2_with (go_at_fn g; refine hcall.mono ?_; rintro e w' ⟨rfl, hb'⟩)
        go_ret
        refine ⟨?_, hb'⟩
        rw [idxP_hit p 0 l 0 kk hlt hB.out AA.out, Nat.zero_add]; rfl
      | false =>
        rw [hq] at hcall hB
        go_wp2_with (go_at_fn g; refine hcall.mono ?_; rintro e w' ⟨rfl, hb'⟩)
        go_roundg (l.length - (kk + 1))
        case measure => omega
        case rel =>
          refine ⟨kk + 1, by omega, by omega, by go_num, ⟨hb'⟩, ⟨fun j hj => ?_⟩⟩
          by_cases e : j = kk
          · subst e; exact hB.out
          · exact AA.out j (by omega)
    · have hltz : ¬ (kk : Int) < (l.length : Int) := by omega
      have hkl : kk = l.length := by omega
      subst hkl
      go_wp2
      go_ret
      refine ⟨?_, BW.out⟩
      rw [idxP_miss p 0 l 0 AA.out]; rfl

set_option maxHeartbeats 2000000 in
theorem cntI_calls (p : Int → Bool) (g : Nat) (lb : Array Value) (eg : ∀ args w, (callFunc g args).run Tryz.prog w = .ok (.enter g args) w) (A : Option Addr) (c : Nat) (l : List Int) (w : World)
    (hr : Kd.C (Kd.int .i64) w A l.length l) (hc : l.length ≤ c)
    (hp : ∀ (W : World) (x : Int), Below w.heap.size w W → Calls Tryz.prog g (#[.int .i64 x] ++ lb) W fun e W' => e = .returned (.bool (p x)) ∧ Below w.heap.size w W') :
    Calls Tryz.prog 45 #[.slice A l.length c, .func (.func g) #[] lb] w fun e w' => e = .returned (.bool (l.any p)) ∧ Below w.heap.size w w' := by
  have hcon := idxI_calls p g lb eg A c l w hr hc hp
  rw [← idxP_any p l 0]
  clear hr hp
  go_enter Tryz.func45, Tryz.ntmps45
  go_wp2_with (go_at_call 62; refine hcon.mono ?_; rintro e w' ⟨rfl, hb'⟩)
  go_ret
  exact ⟨rfl, hb'⟩

set_option maxHeartbeats 2000000 in
theorem idxB_calls (p : S53 → Bool) (g : Nat) (lb : Array Value) (eg : ∀ args w, (callFunc g args).run Tryz.prog w = .ok (.enter g args) w) (A : Option Addr) (c : Nat) (l : List S53) (w : World)
    (hr : Kd.C k53 w A l.length l) (hc : l.length ≤ c)
    (hp : ∀ (W : World) (x : S53) (A0 : Option Addr) (c0 : Nat), Below w.heap.size w W → x.f0.length ≤ c0 → Kd.C k65 W A0 x.f0.length x.f0 → Calls Tryz.prog g (#[.agg #[.slice A0 x.f0.length c0, .int .i64 x.f1, .int .i64 x.f2, .bool x.f3]] ++ lb) W fun e W' => e = .returned (.bool (p x)) ∧ Below w.heap.size w W') :
    Calls Tryz.prog 38 #[.slice A l.length c, .func (.func g) #[] lb] w fun e w' => e = .returned (.int .i64 (idxP p l 0)) ∧ Below w.heap.size w w' := by
  have hbig : l.length ≤ 9223372036854775807 := hr.2.1
  have hcell : ∀ (W : World), Below w.heap.size w W → ∀ k : Nat, k < l.length → ∃ ad A0 c0, A = some ad ∧ W.cell? (ad.add (k * 4)) = some (.slice A0 (rd_T53 l k).f0.length c0) ∧ W.cell? ⟨(ad.add (k * 4)).block, (ad.add (k * 4)).off + 1, none⟩ = some (.int .i64 (rd_T53 l k).f1) ∧ W.cell? ⟨(ad.add (k * 4)).block, (ad.add (k * 4)).off + 2, none⟩ = some (.int .i64 (rd_T53 l k).f2) ∧ W.cell? ⟨(ad.add (k * 4)).block, (ad.add (k * 4)).off + 3, none⟩ = some (.bool (rd_T53 l k).f3) ∧ (rd_T53 l k).f0.length ≤ c0 ∧ Kd.C k65 W A0 (rd_T53 l k).f0.length (rd_T53 l k).f0 := fun W hW k hk => by
    obtain ⟨ad, A0, c0, e, h0, h1, h2, h3, h4, h5⟩ := at_T53 hr (k : Int) (by omega) (by omega)
    rw [Int.toNat_natCast] at h0 h1 h2 h3
    exact ⟨ad, A0, c0, e, (hW.cell (World.block_lt_of_cell? w _ h0)).trans h0, (hW.cell (World.block_lt_of_cell? w _ h1)).trans h1, (hW.cell (World.block_lt_of_cell? w _ h2)).trans h2, (hW.cell (World.block_lt_of_cell? w _ h3)).trans h3, h4, Kd.C_below h5 hW⟩
  have HR := Aside0.mk hr
  clear hr
  go_enter Tryz.func38, Tryz.ntmps38
  go_wp2
  go_loopg [5, 8] l.length (fun gg _ s8 wr => ∃ kk : Nat, kk ≤ l.length ∧ l.length - kk ≤ gg ∧ s8 = .int .i64 kk ∧ Aside0 (Below w.heap.size w wr) ∧ Aside0 (∀ j, j < kk → p (l.getD j z53) = false))
  case atStart => exact ⟨0, Nat.zero_le _, by omega, rfl, ⟨Below.refl _ w⟩, ⟨fun j hj => absurd hj (Nat.not_lt_zero _)⟩⟩
  case round =>
    obtain ⟨kk, hkk, hg, rfl, BW, AA⟩ := hrel
    by_cases hlt : kk < l.length
    · have hltz : (kk : Int) < (l.length : Int) := by omega
      obtain ⟨ad, A0, c0, rfl, l0, l1, l2, l3, l4, l5⟩ := hcell wr BW.out kk (by omega)
      have hcall := hp wr (rd_T53 l kk) A0 c0 BW.out l4 l5
      clear hcell hp l4 l5
      have hB : Aside0 (p (l.getD kk z53) = p (rd_T53 l kk)) := ⟨rfl⟩
      generalize rd_T53 l kk = y at l0 l1 l2 l3 hcall hB
      obtain ⟨y0, y1, y2, y3⟩ := y
      dsimp only at l0 l1 l2 l3 hcall
      cases hq : p ⟨y0, y1, y2, y3⟩ with
      | true =>
        rw [hq] at hcall hB
        go_wp2_with (go_at_fn g; refine hcall.mono ?_; rintro e w' ⟨rfl, hb'⟩)
        go_ret
        refine ⟨?_, hb'⟩
        rw [idxP_hit p z53 l 0 kk hlt hB.out AA.out, Nat.zero_add]; rfl
      | false =>
        rw [hq] at hcall hB
        go_wp2_with (go_at_fn g; refine hcall.mono ?_; rintro e w' ⟨rfl, hb'⟩)
        go_roundg (l.length - (kk + 1))
        case measure => omega
        case rel =>
          refine ⟨kk + 1, by omega, by omega, by go_num, ⟨hb'⟩, ⟨fun j hj => ?_⟩⟩
          by_cases e : j = kk
          · subst e; exact hB.out
          · exact AA.out j (by omega)
    · have hltz : ¬ (kk : Int) < (l.length : Int) := by omega
      have hkl : kk = l.length := by omega
      subst hkl
      go_wp2
      go_ret
      refine ⟨?_, BW.out⟩
      rw [idxP_miss p z53 l 0 AA.out]; rfl

set_option maxHeartbeats 2000000 in
theorem cntB_calls (p : S53 → Bool) (g : Nat) (lb : Array Value) (eg : ∀ args w, (callFunc g args).run Tryz.prog w = .ok (.enter g args) w) (A : Option Addr) (c : Nat) (l : List S53) (w : World)
    (hr : Kd.C k53 w A l.length l) (hc : l.length ≤ c)
    (hp : ∀ (W : World) (x : S53) (A0 : Option Addr) (c0 : Nat), Below w.heap.size w W → x.f0.length ≤ c0 → Kd.C k65 W A0 x.f0.length x.f0 → Calls Tryz.prog g (#[.agg #[.slice A0 x.f0.length c0, .int .i64 x.f1, .int .i64 x.f2, .bool x.f3]] ++ lb) W fun e W' => e = .returned (.bool (p x)) ∧ Below w.heap.size w W') :
    Calls Tryz.prog 35 #[.slice A l.length c, .func (.func g) #[] lb] w fun e w' => e = .returned (.bool (l.any p)) ∧ Below w.heap.size w w' := by
  have hcon := idxB_calls p g lb eg A c l w hr hc hp
  rw [← idxP_any p l 0]
  clear hr hp
  go_enter Tryz.func35, Tryz.ntmps35
  go_wp2_with (go_at_call 38; refine hcon.mono ?_; rintro e w' ⟨rfl, hb'⟩)
  go_ret
  exact ⟨rfl, hb'⟩
end Go.Proofs.YtnfappdaoeiilaaGreat.PD
