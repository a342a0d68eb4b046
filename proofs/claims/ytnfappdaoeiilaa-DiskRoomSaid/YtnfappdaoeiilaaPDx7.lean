-- Written for this claim by a program of this session's over the kit's print (wip/tools/gprint.py). Not trusted: Lean checks it.
import Derived.Test.YtnfappdaoeiilaaPDx0
namespace Go.Proofs.Ytnfappdaoeiilaa.PD
open Go.RowKit Go.Proofs.YtnfappdaoeiilaaW.PrintWords Go.Proofs.YtnfappdaoeiilaaW.PrintLast Go.Proofs.YtnfappdaoeiilaaW.PrintMore
attribute [local go_sem] max2_int min2_int max_two min_two max_three min_three max_four min_four   -- for this text's walks alone
set_option linter.unusedVariables false
set_option linter.unusedSimpArgs false

/-! ### clinkerref10_State: function 6 -/
mutual
def clinkerref10_State.j0 : Nat → Int → Int → Bool → List (S50) → Bool → Bool → Int → Option (Int)
  | 0, _, _, _, _, _, _, _ => none
  | k + 1, x1, x2, x25, x377000, x377001, x377002, x377003 => if x25 = true then (some 3) else (if 0 ≤ x2 then (if x2 < (x377000.length : Int) then (if x2 = x1 then (if ((rd_T50 x377000 x2).f1) ≥ 0 then (clinkerref10_State.j1 k (decide (((rd_T50 x377000 x2).f1) < (((rd_T50 x377000 x2).f0).length : Int))) ((rd_T50 x377000 x2).f0) ((rd_T50 x377000 x2).f1) ((rd_T50 x377000 x2).f2) ((rd_T50 x377000 x2).f3)) else (clinkerref10_State.j1 k false ((rd_T50 x377000 x2).f0) ((rd_T50 x377000 x2).f1) ((rd_T50 x377000 x2).f2) ((rd_T50 x377000 x2).f3))) else (clinkerref10_State.j1 k false ((rd_T50 x377000 x2).f0) ((rd_T50 x377000 x2).f1) ((rd_T50 x377000 x2).f2) ((rd_T50 x377000 x2).f3))) else (none)) else (none))
def clinkerref10_State.j1 : Nat → Bool → List (S52) → Int → Int → Bool → Option (Int)
  | 0, _, _, _, _, _ => none
  | k + 1, x46, x380000, x380001, x380002, x380003 => if x46 = true then (some 1) else (clinkerref10_State.l0 k 0 x380000 x380001 x380002 x380003)
def clinkerref10_State.l0 : Nat → Int → List (S52) → Int → Int → Bool → Option (Int)
  | 0, _, _, _, _, _ => none
  | k + 1, x8, x380000, x380001, x380002, x380003 => if x8 < (x380000.length : Int) then (if 0 ≤ x8 then (if (rd_T52 x380000 x8).f0 = true then (some 2) else (clinkerref10_State.l0 k (wrap64 (x8 + 1)) x380000 x380001 x380002 x380003)) else (none)) else (if x380001 = 0 then (some 0) else (some 2))
end
def clinkerref10_State.f (k : Nat) (l0_0 : List (S50)) (a0_1 : Bool) (a0_2 : Bool) (a0_3 : Int) (a1 : Int) (a2 : Int) : Option (Int) := if a2 < 0 then (clinkerref10_State.j0 k a1 a2 true l0_0 a0_1 a0_2 a0_3) else (if a2 ≥ (l0_0.length : Int) then (clinkerref10_State.j0 k a1 a2 true l0_0 a0_1 a0_2 a0_3) else (if 0 ≤ a2 then (if a2 < (l0_0.length : Int) then (clinkerref10_State.j0 k a1 a2 ((rd_T50 l0_0 a2).f3) l0_0 a0_1 a0_2 a0_3) else (none)) else (none)))
theorem clinkerref10_State.mono_l : ∀ k, (∀ y0 y1 y2 y3 y4 y5 y6, LeO (clinkerref10_State.j0 k y0 y1 y2 y3 y4 y5 y6) (clinkerref10_State.j0 (k + 1) y0 y1 y2 y3 y4 y5 y6)) ∧ (∀ y0 y1 y2 y3 y4, LeO (clinkerref10_State.j1 k y0 y1 y2 y3 y4) (clinkerref10_State.j1 (k + 1) y0 y1 y2 y3 y4)) ∧ (∀ y0 y1 y2 y3 y4, LeO (clinkerref10_State.l0 k y0 y1 y2 y3 y4) (clinkerref10_State.l0 (k + 1) y0 y1 y2 y3 y4))
  | 0 => ⟨fun _ _ _ _ _ _ _ r h => by simp [clinkerref10_State.j0] at h, fun _ _ _ _ _ r h => by simp [clinkerref10_State.j1] at h, fun _ _ _ _ _ r h => by simp [clinkerref10_State.l0] at h⟩
  | k + 1 => by
    obtain ⟨ih0, ih1, ih2⟩ := clinkerref10_State.mono_l k
    refine ⟨?_, ?_, ?_⟩
    · intro y0 y1 y2 y3 y4 y5 y6
      unfold clinkerref10_State.j0
      repeat' first
      | (with_reducible exact ih0 _ _ _ _ _ _ _)
      | (with_reducible exact ih1 _ _ _ _ _)
      | (with_reducible exact ih2 _ _ _ _ _)
      | (with_reducible exact LeO.refl _)
      | (with_reducible exact LeO.none _)
      | (with_reducible refine LeO.ite ?_ ?_)
      | (with_reducible refine LeO.bind ?_ (fun _ => ?_))
      | exact ih0 _ _ _ _ _ _ _
      | exact ih1 _ _ _ _ _
      | exact ih2 _ _ _ _ _
      | exact LeO.none _
      | refine LeO.ite ?_ ?_
      | refine LeO.bind ?_ (fun _ => ?_)
    · intro y0 y1 y2 y3 y4
      unfold clinkerref10_State.j1
      repeat' first
      | (with_reducible exact ih0 _ _ _ _ _ _ _)
      | (with_reducible exact ih1 _ _ _ _ _)
      | (with_reducible exact ih2 _ _ _ _ _)
      | (with_reducible exact LeO.refl _)
      | (with_reducible exact LeO.none _)
      | (with_reducible refine LeO.ite ?_ ?_)
      | (with_reducible refine LeO.bind ?_ (fun _ => ?_))
      | exact ih0 _ _ _ _ _ _ _
      | exact ih1 _ _ _ _ _
      | exact ih2 _ _ _ _ _
      | exact LeO.none _
      | refine LeO.ite ?_ ?_
      | refine LeO.bind ?_ (fun _ => ?_)
    · intro y0 y1 y2 y3 y4
      unfold clinkerref10_State.l0
      repeat' first
      | (with_reducible exact ih0 _ _ _ _ _ _ _)
      | (with_reducible exact ih1 _ _ _ _ _)
      | (with_reducible exact ih2 _ _ _ _ _)
      | (with_reducible exact LeO.refl _)
      | (with_reducible exact LeO.none _)
      | (with_reducible refine LeO.ite ?_ ?_)
      | (with_reducible refine LeO.bind ?_ (fun _ => ?_))
      | exact ih0 _ _ _ _ _ _ _
      | exact ih1 _ _ _ _ _
      | exact ih2 _ _ _ _ _
      | exact LeO.none _
      | refine LeO.ite ?_ ?_
      | refine LeO.bind ?_ (fun _ => ?_)
theorem clinkerref10_State.mono : ∀ a0 a1 a2 a3 a4 a5 k, LeO (clinkerref10_State.f k a0 a1 a2 a3 a4 a5) (clinkerref10_State.f (k + 1) a0 a1 a2 a3 a4 a5) := by
  intro a0 a1 a2 a3 a4 a5 k
  obtain ⟨ih0, ih1, ih2⟩ := clinkerref10_State.mono_l k
  unfold clinkerref10_State.f
  repeat' first
      | (with_reducible exact ih0 _ _ _ _ _ _ _)
      | (with_reducible exact ih1 _ _ _ _ _)
      | (with_reducible exact ih2 _ _ _ _ _)
      | (with_reducible exact LeO.refl _)
      | (with_reducible exact LeO.none _)
      | (with_reducible refine LeO.ite ?_ ?_)
      | (with_reducible refine LeO.bind ?_ (fun _ => ?_))
      | exact ih0 _ _ _ _ _ _ _
      | exact ih1 _ _ _ _ _
      | exact ih2 _ _ _ _ _
      | exact LeO.none _
      | refine LeO.ite ?_ ?_
      | refine LeO.bind ?_ (fun _ => ?_)
set_option maxHeartbeats 8000000 in
set_option maxRecDepth 100000 in
theorem clinkerref10_State.calls (k : Nat) (A0_0 : Option Addr) (c0_0 : Nat) (l0_0 : List (S50)) (a0_1 : Bool) (a0_2 : Bool) (a0_3 : Int) (a1 : Int) (a2 : Int) (r : Int) (w : World) (hr0_0 : Kd.C k50 w A0_0 l0_0.length l0_0) (hc0_0 : l0_0.length ≤ c0_0) (h : clinkerref10_State.f k l0_0 a0_1 a0_2 a0_3 a1 a2 = some r) :
    Calls Try.prog 6 #[.agg #[.slice A0_0 l0_0.length c0_0, .bool a0_1, .bool a0_2, .int .i64 a0_3], .int .i64 a1, .int .i64 a2] w fun e w' => e = .returned (.int .i64 r) ∧ Below w.heap.size w w' := by
  have hu29 := Try.underlying29
  have hu50 := Try.underlying50
  have HR0_0 := Aside0.mk hr0_0
  have HC0_0 := Aside0.mk hc0_0
  clear hr0_0 hc0_0
  have HB := Aside0.mk (Below.refl w.heap.size w)
  have H : (if a2 < 0 then (clinkerref10_State.j0 k a1 a2 true l0_0 a0_1 a0_2 a0_3) else (if a2 ≥ (l0_0.length : Int) then (clinkerref10_State.j0 k a1 a2 true l0_0 a0_1 a0_2 a0_3) else (if 0 ≤ a2 then (if a2 < (l0_0.length : Int) then (clinkerref10_State.j0 k a1 a2 ((rd_T50 l0_0 a2).f3) l0_0 a0_1 a0_2 a0_3) else (none)) else (none)))) = some r := h
  clear h
  have HC4 := Aside0.mk H
  clear H
  go_enter Try.func6, Try.ntmps6
  go_upto_region 1 with (first | ((with_reducible refine gate_dst (N := 3) rfl ?_); (try (refine gate_guard (by rfl) ?_; dsimp only)); refine box_event ?hg (N := 3) ?hd (cs := #[.slice A0_0 l0_0.length c0_0, .bool a0_1, .bool a0_2, .int .i64 a0_3]) (t := 29) ?hr ?_; (case hd => rfl); (case hg => rfl); (case hr => first | (go_simp; done) | (go_simp; rfl)); intro gb376 hg w5 hbox hb; have n0_ := Aside0.mk (below_step (by repeat (first | (with_reducible first | exact HB.out | apply below_alloc | apply pw_below_drewN | apply below_drew1) | exact HB.out)) hb); have n1_ := Aside0.mk (hbox); have n2_ := Aside0.mk ((by rw [hg]; exact (below_size (by repeat (first | (with_reducible first | exact HB.out | apply below_alloc | apply pw_below_drewN | apply below_drew1) | exact HB.out))) : w.heap.size ≤ gb376)); have n3_ := Aside0.mk ((by rw [hg]; exact (below_size (by repeat (first | (with_reducible first | exact HB.out | apply below_alloc | apply pw_below_drewN | apply below_drew1) | exact HB.out))) : w.heap.size ≤ gb376)); clear HB; have HB := n0_; have BK376 := n1_; have GW376 := n2_; have GE376 := n3_; clear n0_ n1_ n2_ n3_; clear hb hbox hg))
  (try simp only [Act.put, List.setIfInBounds_toArray, List.set_cons_zero, List.set_cons_succ])
  go_cut [25] (fun v25 wc => ∃ (kq : Nat) (x25_3 : Bool), v25 = .bool x25_3 ∧ Aside0 (clinkerref10_State.j0 kq a1 a2 x25_3 l0_0 a0_1 a0_2 a0_3 = some r) ∧ Aside0 (kq ≤ k) ∧ Aside0 (wc.heap[gb376]? = some (.cells #[(.slice A0_0 l0_0.length c0_0), .bool a0_1, .bool a0_2, .int .i64 a0_3] 29 (0, 0))) ∧ Aside0 (Below w.heap.size w wc))
  case first =>
    have H := HC4.out
    clear HC4
    by_cases c6 : a2 < 0
    · rw [if_pos c6] at H
      have c6b0 : decide (a2 < 0) = true := decide_eq_true c6
      clear c6
      (first | rw [c6b0] | (simp only [i64_w, i32_w]; rw [c6b0]) | skip)
      have H' := Aside0.mk H
      clear H
      go_wp2
      go_meet
      case rel => exact ⟨_, (true), (by first | rfl | (simp; done) | (simp [*]; done)), H', ⟨by first | omega | exact Nat.le_refl _⟩, ⟨by (with_reducible repeat (first | refine blk_drewN ?_ _ | refine blk_drew ?_ | refine blk_alloc ?_ _)); exact BK376.out⟩, ⟨by repeat (first | (with_reducible first | exact HB.out | apply below_alloc | apply pw_below_drewN | apply below_drew1 | refine below_set ?_ GE376.out) | exact HB.out)⟩⟩
    · rw [if_neg c6] at H
      have c6b0 : decide (a2 < 0) = false := decide_eq_false c6
      clear c6
      (first | rw [c6b0] | (simp only [i64_w, i32_w]; rw [c6b0]) | skip)
      by_cases c7 : a2 ≥ (l0_0.length : Int)
      · rw [if_pos c7] at H
        have c7b0 : decide ((l0_0.length : Int) ≤ a2) = true := decide_eq_true c7
        clear c7
        have H' := Aside0.mk H
        clear H
        have hcz8_0 : w5.cell? ⟨gb376, 0, none⟩ = some (.slice A0_0 l0_0.length c0_0) := (blk_cell BK376.out 0).trans rfl
        have hcz8_1 : w5.cell? ⟨gb376, 1, none⟩ = some (.bool a0_1) := (blk_cell BK376.out 1).trans rfl
        have hcz8_2 : w5.cell? ⟨gb376, 2, none⟩ = some (.bool a0_2) := (blk_cell BK376.out 2).trans rfl
        have hcz8_3 : w5.cell? ⟨gb376, 3, none⟩ = some (.int .i64 a0_3) := (blk_cell BK376.out 3).trans rfl
        have hfz8_0 := blk_frozen BK376.out 0
        have hfz8_1 := blk_frozen BK376.out 1
        have hfz8_2 := blk_frozen BK376.out 2
        have hfz8_3 := blk_frozen BK376.out 3
        go_wp2
        go_meet
        case rel => exact ⟨_, (true), (by first | rfl | (simp; done) | (simp [*]; done)), H', ⟨by first | omega | exact Nat.le_refl _⟩, ⟨by (with_reducible repeat (first | refine blk_drewN ?_ _ | refine blk_drew ?_ | refine blk_alloc ?_ _)); exact BK376.out⟩, ⟨by repeat (first | (with_reducible first | exact HB.out | apply below_alloc | apply pw_below_drewN | apply below_drew1 | refine below_set ?_ GE376.out) | exact HB.out)⟩⟩
      · rw [if_neg c7] at H
        have c7b0 : decide ((l0_0.length : Int) ≤ a2) = false := decide_eq_false c7
        clear c7
        by_cases c9 : 0 ≤ a2
        · rw [if_pos c9] at H
          have c9b0 : decide (0 ≤ a2) = true := decide_eq_true c9
          clear c9
          by_cases c10 : a2 < (l0_0.length : Int)
          · rw [if_pos c10] at H
            have c10b0 : decide (a2 < (l0_0.length : Int)) = true := decide_eq_true c10
            clear c10
            have H' := Aside0.mk H
            clear H
            have hcz11_0 : w5.cell? ⟨gb376, 0, none⟩ = some (.slice A0_0 l0_0.length c0_0) := (blk_cell BK376.out 0).trans rfl
            have hcz11_1 : w5.cell? ⟨gb376, 1, none⟩ = some (.bool a0_1) := (blk_cell BK376.out 1).trans rfl
            have hcz11_2 : w5.cell? ⟨gb376, 2, none⟩ = some (.bool a0_2) := (blk_cell BK376.out 2).trans rfl
            have hcz11_3 : w5.cell? ⟨gb376, 3, none⟩ = some (.int .i64 a0_3) := (blk_cell BK376.out 3).trans rfl
            have hfz11_0 := blk_frozen BK376.out 0
            have hfz11_1 := blk_frozen BK376.out 1
            have hfz11_2 := blk_frozen BK376.out 2
            have hfz11_3 := blk_frozen BK376.out 3
            have p377 : 0 ≤ (a2 : Int) := of_decide_eq_true (by first | (with_reducible assumption) | assumption)
            have q377 : a2 < (l0_0.length : Int) := of_decide_eq_true (by first | (with_reducible assumption) | assumption)
            obtain ⟨ad377, A377_0, c377_0, e377, hx377_0, hx377_1, hx377_2, hx377_3, hl377_0, hi377_0⟩ := at_T50 HR0_0.out a2 p377 q377
            cases e377
            replace hx377_0 := (HB.out.cell (World.block_lt_of_cell? w _ hx377_0)).trans hx377_0
            replace hx377_1 := (HB.out.cell (World.block_lt_of_cell? w _ hx377_1)).trans hx377_1
            replace hx377_2 := (HB.out.cell (World.block_lt_of_cell? w _ hx377_2)).trans hx377_2
            replace hx377_3 := (HB.out.cell (World.block_lt_of_cell? w _ hx377_3)).trans hx377_3
            have HR377_0 := Aside0.mk hi377_0
            have HC377_0 := Aside0.mk hl377_0
            clear hi377_0 hl377_0
            replace p377 := eq_true p377
            replace q377 := eq_true q377
            go_wp2
            go_meet
            case rel => exact ⟨_, ((rd_T50 l0_0 a2).f3), (by first | rfl | (simp; done) | (simp [*]; done)), H', ⟨by first | omega | exact Nat.le_refl _⟩, ⟨by (with_reducible repeat (first | refine blk_drewN ?_ _ | refine blk_drew ?_ | refine blk_alloc ?_ _)); exact BK376.out⟩, ⟨by repeat (first | (with_reducible first | exact HB.out | apply below_alloc | apply pw_below_drewN | apply below_drew1 | refine below_set ?_ GE376.out) | exact HB.out)⟩⟩
          · rw [if_neg c10] at H
            exact absurd H (by simp)
        · rw [if_neg c9] at H
          exact absurd H (by simp)
  case rest =>
    clear HC4
    try clear c1
    try clear p2
    try clear c3
    try clear p3
    try clear q3
    try clear hx3
    try clear c6
    try clear c6b0
    try clear c7
    try clear c7b0
    try clear c9
    try clear c9b0
    try clear c10
    try clear c10b0
    try clear hcz11_0
    try clear hcz11_1
    try clear hcz11_2
    try clear hcz11_3
    try clear hcz8_0
    try clear hcz8_1
    try clear hcz8_2
    try clear hcz8_3
    try clear hfz11_0
    try clear hfz11_1
    try clear hfz11_2
    try clear hfz11_3
    try clear hfz8_0
    try clear hfz8_1
    try clear hfz8_2
    try clear hfz8_3
    try clear hx377_0
    try clear hx377_1
    try clear hx377_2
    try clear hx377_3
    try clear p377
    try clear q377
    obtain ⟨kq, x25_3, rfl, HA, HJ3, BK376, HB⟩ := hcut
    cases kq with
    | zero => exact absurd HA.out (by simp [clinkerref10_State.j0])
    | succ kj3 =>
      have H := HA.out
      clear HA
      simp only [clinkerref10_State.j0] at H
      by_cases c12 : x25_3 = true
      · subst c12
        have H1 : (some 3) = some r := by rw [if_pos rfl] at H; exact H
        clear H
        have H := H1
        clear H1
        obtain rfl := Option.some.inj H
        go_wp2
        go_ret
        exact ⟨by first | rfl | (simp [errW_none, errW_some] <;> rfl) | (simp [*, errW_none, errW_some] <;> rfl), by repeat (first | (with_reducible first | exact HB.out | apply below_alloc | apply pw_below_drewN | apply below_drew1 | refine below_set ?_ GE376.out) | exact HB.out)⟩
      · replace c12 := Bool.eq_false_iff.mpr c12
        subst c12
        have H1 : (if 0 ≤ a2 then (if a2 < (l0_0.length : Int) then (if a2 = a1 then (if ((rd_T50 l0_0 a2).f1) ≥ 0 then (clinkerref10_State.j1 kj3 (decide (((rd_T50 l0_0 a2).f1) < (((rd_T50 l0_0 a2).f0).length : Int))) ((rd_T50 l0_0 a2).f0) ((rd_T50 l0_0 a2).f1) ((rd_T50 l0_0 a2).f2) ((rd_T50 l0_0 a2).f3)) else (clinkerref10_State.j1 kj3 false ((rd_T50 l0_0 a2).f0) ((rd_T50 l0_0 a2).f1) ((rd_T50 l0_0 a2).f2) ((rd_T50 l0_0 a2).f3))) else (clinkerref10_State.j1 kj3 false ((rd_T50 l0_0 a2).f0) ((rd_T50 l0_0 a2).f1) ((rd_T50 l0_0 a2).f2) ((rd_T50 l0_0 a2).f3))) else (none)) else (none)) = some r := by rw [if_neg (show ¬ (false = true) by decide)] at H; exact H
        clear H
        have H := H1
        clear H1
        by_cases c13 : 0 ≤ a2
        · rw [if_pos c13] at H
          have c13b0 : decide (0 ≤ a2) = true := decide_eq_true c13
          clear c13
          by_cases c14 : a2 < (l0_0.length : Int)
          · rw [if_pos c14] at H
            have c14b0 : decide (a2 < (l0_0.length : Int)) = true := decide_eq_true c14
            clear c14
            have HC15 := Aside0.mk H
            clear H
            have hcz16_0 : wc.cell? ⟨gb376, 0, none⟩ = some (.slice A0_0 l0_0.length c0_0) := (blk_cell BK376.out 0).trans rfl
            have hcz16_1 : wc.cell? ⟨gb376, 1, none⟩ = some (.bool a0_1) := (blk_cell BK376.out 1).trans rfl
            have hcz16_2 : wc.cell? ⟨gb376, 2, none⟩ = some (.bool a0_2) := (blk_cell BK376.out 2).trans rfl
            have hcz16_3 : wc.cell? ⟨gb376, 3, none⟩ = some (.int .i64 a0_3) := (blk_cell BK376.out 3).trans rfl
            have hfz16_0 := blk_frozen BK376.out 0
            have hfz16_1 := blk_frozen BK376.out 1
            have hfz16_2 := blk_frozen BK376.out 2
            have hfz16_3 := blk_frozen BK376.out 3
            have p378 : 0 ≤ (a2 : Int) := of_decide_eq_true (by first | (with_reducible assumption) | assumption)
            have q378 : a2 < (l0_0.length : Int) := of_decide_eq_true (by first | (with_reducible assumption) | assumption)
            obtain ⟨ad378, A378_0, c378_0, e378, hx378_0, hx378_1, hx378_2, hx378_3, hl378_0, hi378_0⟩ := at_T50 HR0_0.out a2 p378 q378
            cases e378
            replace hx378_0 := (HB.out.cell (World.block_lt_of_cell? w _ hx378_0)).trans hx378_0
            replace hx378_1 := (HB.out.cell (World.block_lt_of_cell? w _ hx378_1)).trans hx378_1
            replace hx378_2 := (HB.out.cell (World.block_lt_of_cell? w _ hx378_2)).trans hx378_2
            replace hx378_3 := (HB.out.cell (World.block_lt_of_cell? w _ hx378_3)).trans hx378_3
            have HR378_0 := Aside0.mk hi378_0
            have HC378_0 := Aside0.mk hl378_0
            clear hi378_0 hl378_0
            replace p378 := eq_true p378
            replace q378 := eq_true q378
            go_upto_region 4 with (first | ((with_reducible refine gate_dst (N := 7) rfl ?_); (try (refine gate_guard (by rfl) ?_; dsimp only)); refine box_event ?hg (N := 7) ?hd (cs := #[.slice none 0 0, .int .i64 0, .int .i64 0, .bool false]) (t := 50) ?hr ?_; (case hd => rfl); (case hg => rfl); (case hr => first | (go_simp; done) | (go_simp; rfl)); intro gb379 hg w17 hbox hb; have n0_ := Aside0.mk (blk_below (g := gb376) (o := .cells #[.slice (some ad378) l0_0.length c0_0, .bool a0_1, .bool a0_2, .int .i64 a0_3] 29 (0, 0)) (by (with_reducible repeat (first | refine blk_drewN ?_ _ | refine blk_drew ?_ | refine blk_alloc ?_ _)); exact BK376.out) hb); have n1_ := Aside0.mk (below_step (by repeat (first | (with_reducible first | exact HB.out | apply below_alloc | apply pw_below_drewN | apply below_drew1 | refine below_set ?_ GE376.out) | exact HB.out)) hb); have n2_ := Aside0.mk (hbox); have n3_ := Aside0.mk ((by rw [hg]; exact (below_size (by repeat (first | (with_reducible first | exact HB.out | apply below_alloc | apply pw_below_drewN | apply below_drew1 | refine below_set ?_ GE376.out) | exact HB.out))) : w.heap.size ≤ gb379)); have n4_ := Aside0.mk ((by rw [hg]; exact (below_size (by repeat (first | (with_reducible first | exact HB.out | apply below_alloc | apply pw_below_drewN | apply below_drew1 | refine below_set ?_ GE376.out) | exact HB.out))) : w.heap.size ≤ gb379)); have n5_ := Aside0.mk ((by rw [hg]; exact Nat.ne_of_lt (blk_lt (g := gb376) (o := .cells #[.slice (some ad378) l0_0.length c0_0, .bool a0_1, .bool a0_2, .int .i64 a0_3] 29 (0, 0)) (by (with_reducible repeat (first | refine blk_drewN ?_ _ | refine blk_drew ?_ | refine blk_alloc ?_ _)); exact BK376.out)) : gb376 ≠ gb379)); have n6_ := Aside0.mk ((by rw [hg]; exact Nat.ne_of_gt (blk_lt (g := gb376) (o := .cells #[.slice (some ad378) l0_0.length c0_0, .bool a0_1, .bool a0_2, .int .i64 a0_3] 29 (0, 0)) (by (with_reducible repeat (first | refine blk_drewN ?_ _ | refine blk_drew ?_ | refine blk_alloc ?_ _)); exact BK376.out)) : gb379 ≠ gb376)); clear BK376; clear HB; have BK376 := n0_; have HB := n1_; have BK379 := n2_; have GW379 := n3_; have GE379 := n4_; have NB376_379 := n5_; have NB379_376 := n6_; clear n0_ n1_ n2_ n3_ n4_ n5_ n6_; clear hb hbox hg; have hnb18 := NB379_376.out; have hnc18 := NB376_379.out; have hcz19_0 : w17.cell? ⟨gb379, 0, none⟩ = some (.slice none 0 0) := (blk_cell BK379.out 0).trans rfl; have hcz19_1 : w17.cell? ⟨gb379, 1, none⟩ = some (.int .i64 0) := (blk_cell BK379.out 1).trans rfl; have hcz19_2 : w17.cell? ⟨gb379, 2, none⟩ = some (.int .i64 0) := (blk_cell BK379.out 2).trans rfl; have hcz19_3 : w17.cell? ⟨gb379, 3, none⟩ = some (.bool false) := (blk_cell BK379.out 3).trans rfl; have hfz19_0 := blk_frozen BK379.out 0; have hfz19_1 := blk_frozen BK379.out 1; have hfz19_2 := blk_frozen BK379.out 2; have hfz19_3 := blk_frozen BK379.out 3))
            (try simp only [Act.put, List.setIfInBounds_toArray, List.set_cons_zero, List.set_cons_succ])
            go_cut [46] (fun v46 wc => ∃ (kq : Nat) (x46_14 : Bool), v46 = .bool x46_14 ∧ Aside0 (clinkerref10_State.j1 kq x46_14 ((rd_T50 l0_0 a2).f0) ((rd_T50 l0_0 a2).f1) ((rd_T50 l0_0 a2).f2) ((rd_T50 l0_0 a2).f3) = some r) ∧ Aside0 (kq ≤ kj3) ∧ Aside0 (wc.heap[gb376]? = some (.cells #[(.slice (some ad378) l0_0.length c0_0), .bool a0_1, .bool a0_2, .int .i64 a0_3] 29 (0, 0))) ∧ Aside0 (wc.heap[gb379]? = some (.cells #[(.slice A378_0 ((rd_T50 l0_0 a2).f0).length c378_0), .int .i64 ((rd_T50 l0_0 a2).f1), .int .i64 ((rd_T50 l0_0 a2).f2), .bool ((rd_T50 l0_0 a2).f3)] 50 (0, 0))) ∧ Aside0 (Below w.heap.size w wc))
            case first =>
              have H := HC15.out
              clear HC15
              by_cases c20 : a2 = a1
              · rw [if_pos c20] at H
                have c20b0 : (a2 == a1) = true := beq_iff_eq.mpr c20
                have c20b1 : (a2 != a1) = false := bne_eq_false_iff_eq.mpr c20
                clear c20
                (first | rw [c20b0] | (simp only [i64_w, i32_w]; rw [c20b0]) | skip)
                by_cases c21 : ((rd_T50 l0_0 a2).f1) ≥ 0
                · rw [if_pos c21] at H
                  have c21b0 : decide (0 ≤ ((rd_T50 l0_0 a2).f1)) = true := decide_eq_true c21
                  clear c21
                  have H' := Aside0.mk H
                  clear H
                  have hnb22 := NB379_376.out
                  have hnc22 := NB376_379.out
                  have hcz23_0 : w17.cell? ⟨gb379, 0, none⟩ = some (.slice none 0 0) := (blk_cell BK379.out 0).trans rfl
                  have hcz23_1 : w17.cell? ⟨gb379, 1, none⟩ = some (.int .i64 0) := (blk_cell BK379.out 1).trans rfl
                  have hcz23_2 : w17.cell? ⟨gb379, 2, none⟩ = some (.int .i64 0) := (blk_cell BK379.out 2).trans rfl
                  have hcz23_3 : w17.cell? ⟨gb379, 3, none⟩ = some (.bool false) := (blk_cell BK379.out 3).trans rfl
                  have hfz23_0 := blk_frozen BK379.out 0
                  have hfz23_1 := blk_frozen BK379.out 1
                  have hfz23_2 := blk_frozen BK379.out 2
                  have hfz23_3 := blk_frozen BK379.out 3
                  go_wp2
                  go_meet
                  case rel => exact ⟨_, (decide (((rd_T50 l0_0 a2).f1) < (((rd_T50 l0_0 a2).f0).length : Int))), (by first | rfl | (simp; done) | (simp [*]; done)), H', ⟨by have := HJ3.out; first | omega | exact Nat.le_refl _⟩, ⟨by (with_reducible repeat (first | refine blk_drewN ?_ _ | refine blk_drew ?_ | refine blk_alloc ?_ _)); refine blk_far ?_ NB376_379.out _; (with_reducible repeat (first | refine blk_drewN ?_ _ | refine blk_drew ?_ | refine blk_alloc ?_ _)); refine blk_far ?_ NB376_379.out _; (with_reducible repeat (first | refine blk_drewN ?_ _ | refine blk_drew ?_ | refine blk_alloc ?_ _)); refine blk_far ?_ NB376_379.out _; (with_reducible repeat (first | refine blk_drewN ?_ _ | refine blk_drew ?_ | refine blk_alloc ?_ _)); refine blk_far ?_ NB376_379.out _; (with_reducible repeat (first | refine blk_drewN ?_ _ | refine blk_drew ?_ | refine blk_alloc ?_ _)); exact BK376.out⟩, ⟨by (with_reducible repeat (first | refine blk_drewN ?_ _ | refine blk_drew ?_ | refine blk_alloc ?_ _)); refine blk_put (cs := #[.slice A378_0 ((rd_T50 l0_0 a2).f0).length c378_0, .int .i64 ((rd_T50 l0_0 a2).f1), .int .i64 ((rd_T50 l0_0 a2).f2), .bool false]) ?_ 3 _ rfl; (with_reducible repeat (first | refine blk_drewN ?_ _ | refine blk_drew ?_ | refine blk_alloc ?_ _)); refine blk_put (cs := #[.slice A378_0 ((rd_T50 l0_0 a2).f0).length c378_0, .int .i64 ((rd_T50 l0_0 a2).f1), .int .i64 0, .bool false]) ?_ 2 _ rfl; (with_reducible repeat (first | refine blk_drewN ?_ _ | refine blk_drew ?_ | refine blk_alloc ?_ _)); refine blk_put (cs := #[.slice A378_0 ((rd_T50 l0_0 a2).f0).length c378_0, .int .i64 0, .int .i64 0, .bool false]) ?_ 1 _ rfl; (with_reducible repeat (first | refine blk_drewN ?_ _ | refine blk_drew ?_ | refine blk_alloc ?_ _)); refine blk_put (cs := #[.slice none 0 0, .int .i64 0, .int .i64 0, .bool false]) ?_ 0 _ rfl; (with_reducible repeat (first | refine blk_drewN ?_ _ | refine blk_drew ?_ | refine blk_alloc ?_ _)); exact BK379.out⟩, ⟨by repeat (first | (with_reducible first | exact HB.out | apply below_alloc | apply pw_below_drewN | apply below_drew1 | refine below_set ?_ GE376.out | refine below_set ?_ GE379.out) | exact HB.out)⟩⟩
                · rw [if_neg c21] at H
                  have c21b0 : decide (0 ≤ ((rd_T50 l0_0 a2).f1)) = false := decide_eq_false c21
                  clear c21
                  have H' := Aside0.mk H
                  clear H
                  have hnb24 := NB379_376.out
                  have hnc24 := NB376_379.out
                  have hcz25_0 : w17.cell? ⟨gb379, 0, none⟩ = some (.slice none 0 0) := (blk_cell BK379.out 0).trans rfl
                  have hcz25_1 : w17.cell? ⟨gb379, 1, none⟩ = some (.int .i64 0) := (blk_cell BK379.out 1).trans rfl
                  have hcz25_2 : w17.cell? ⟨gb379, 2, none⟩ = some (.int .i64 0) := (blk_cell BK379.out 2).trans rfl
                  have hcz25_3 : w17.cell? ⟨gb379, 3, none⟩ = some (.bool false) := (blk_cell BK379.out 3).trans rfl
                  have hfz25_0 := blk_frozen BK379.out 0
                  have hfz25_1 := blk_frozen BK379.out 1
                  have hfz25_2 := blk_frozen BK379.out 2
                  have hfz25_3 := blk_frozen BK379.out 3
                  go_wp2
                  go_meet
                  case rel => exact ⟨_, (false), (by first | rfl | (simp; done) | (simp [*]; done)), H', ⟨by have := HJ3.out; first | omega | exact Nat.le_refl _⟩, ⟨by (with_reducible repeat (first | refine blk_drewN ?_ _ | refine blk_drew ?_ | refine blk_alloc ?_ _)); refine blk_far ?_ NB376_379.out _; (with_reducible repeat (first | refine blk_drewN ?_ _ | refine blk_drew ?_ | refine blk_alloc ?_ _)); refine blk_far ?_ NB376_379.out _; (with_reducible repeat (first | refine blk_drewN ?_ _ | refine blk_drew ?_ | refine blk_alloc ?_ _)); refine blk_far ?_ NB376_379.out _; (with_reducible repeat (first | refine blk_drewN ?_ _ | refine blk_drew ?_ | refine blk_alloc ?_ _)); refine blk_far ?_ NB376_379.out _; (with_reducible repeat (first | refine blk_drewN ?_ _ | refine blk_drew ?_ | refine blk_alloc ?_ _)); exact BK376.out⟩, ⟨by (with_reducible repeat (first | refine blk_drewN ?_ _ | refine blk_drew ?_ | refine blk_alloc ?_ _)); refine blk_put (cs := #[.slice A378_0 ((rd_T50 l0_0 a2).f0).length c378_0, .int .i64 ((rd_T50 l0_0 a2).f1), .int .i64 ((rd_T50 l0_0 a2).f2), .bool false]) ?_ 3 _ rfl; (with_reducible repeat (first | refine blk_drewN ?_ _ | refine blk_drew ?_ | refine blk_alloc ?_ _)); refine blk_put (cs := #[.slice A378_0 ((rd_T50 l0_0 a2).f0).length c378_0, .int .i64 ((rd_T50 l0_0 a2).f1), .int .i64 0, .bool false]) ?_ 2 _ rfl; (with_reducible repeat (first | refine blk_drewN ?_ _ | refine blk_drew ?_ | refine blk_alloc ?_ _)); refine blk_put (cs := #[.slice A378_0 ((rd_T50 l0_0 a2).f0).length c378_0, .int .i64 0, .int .i64 0, .bool false]) ?_ 1 _ rfl; (with_reducible repeat (first | refine blk_drewN ?_ _ | refine blk_drew ?_ | refine blk_alloc ?_ _)); refine blk_put (cs := #[.slice none 0 0, .int .i64 0, .int .i64 0, .bool false]) ?_ 0 _ rfl; (with_reducible repeat (first | refine blk_drewN ?_ _ | refine blk_drew ?_ | refine blk_alloc ?_ _)); exact BK379.out⟩, ⟨by repeat (first | (with_reducible first | exact HB.out | apply below_alloc | apply pw_below_drewN | apply below_drew1 | refine below_set ?_ GE376.out | refine below_set ?_ GE379.out) | exact HB.out)⟩⟩
              · rw [if_neg c20] at H
                have c20b0 : (a2 == a1) = false := beq_eq_false_iff_ne.mpr c20
                have c20b1 : (a2 != a1) = true := bne_iff_ne.mpr c20
                (first | rw [c20b0] | (simp only [i64_w, i32_w]; rw [c20b0]) | skip)
                have H' := Aside0.mk H
                clear H
                go_wp2
                go_meet
                case rel => exact ⟨_, (false), (by first | rfl | (simp; done) | (simp [*]; done)), H', ⟨by have := HJ3.out; first | omega | exact Nat.le_refl _⟩, ⟨by (with_reducible repeat (first | refine blk_drewN ?_ _ | refine blk_drew ?_ | refine blk_alloc ?_ _)); refine blk_far ?_ NB376_379.out _; (with_reducible repeat (first | refine blk_drewN ?_ _ | refine blk_drew ?_ | refine blk_alloc ?_ _)); refine blk_far ?_ NB376_379.out _; (with_reducible repeat (first | refine blk_drewN ?_ _ | refine blk_drew ?_ | refine blk_alloc ?_ _)); refine blk_far ?_ NB376_379.out _; (with_reducible repeat (first | refine blk_drewN ?_ _ | refine blk_drew ?_ | refine blk_alloc ?_ _)); refine blk_far ?_ NB376_379.out _; (with_reducible repeat (first | refine blk_drewN ?_ _ | refine blk_drew ?_ | refine blk_alloc ?_ _)); exact BK376.out⟩, ⟨by (with_reducible repeat (first | refine blk_drewN ?_ _ | refine blk_drew ?_ | refine blk_alloc ?_ _)); refine blk_put (cs := #[.slice A378_0 ((rd_T50 l0_0 a2).f0).length c378_0, .int .i64 ((rd_T50 l0_0 a2).f1), .int .i64 ((rd_T50 l0_0 a2).f2), .bool false]) ?_ 3 _ rfl; (with_reducible repeat (first | refine blk_drewN ?_ _ | refine blk_drew ?_ | refine blk_alloc ?_ _)); refine blk_put (cs := #[.slice A378_0 ((rd_T50 l0_0 a2).f0).length c378_0, .int .i64 ((rd_T50 l0_0 a2).f1), .int .i64 0, .bool false]) ?_ 2 _ rfl; (with_reducible repeat (first | refine blk_drewN ?_ _ | refine blk_drew ?_ | refine blk_alloc ?_ _)); refine blk_put (cs := #[.slice A378_0 ((rd_T50 l0_0 a2).f0).length c378_0, .int .i64 0, .int .i64 0, .bool false]) ?_ 1 _ rfl; (with_reducible repeat (first | refine blk_drewN ?_ _ | refine blk_drew ?_ | refine blk_alloc ?_ _)); refine blk_put (cs := #[.slice none 0 0, .int .i64 0, .int .i64 0, .bool false]) ?_ 0 _ rfl; (with_reducible repeat (first | refine blk_drewN ?_ _ | refine blk_drew ?_ | refine blk_alloc ?_ _)); exact BK379.out⟩, ⟨by repeat (first | (with_reducible first | exact HB.out | apply below_alloc | apply pw_below_drewN | apply below_drew1 | refine below_set ?_ GE376.out | refine below_set ?_ GE379.out) | exact HB.out)⟩⟩
            case rest =>
              clear HC15
              try clear c1
              try clear c2
              try clear p2
              try clear c3
              try clear p3
              try clear q3
              try clear hx3
              try clear c6
              try clear c6b0
              try clear c7
              try clear c7b0
              try clear c9
              try clear c9b0
              try clear c10
              try clear c10b0
              try clear c12
              try clear c13
              try clear c13b0
              try clear c14
              try clear c14b0
              try clear c18
              try clear c20
              try clear c20b0
              try clear c20b1
              try clear c21
              try clear c21b0
              try clear c22
              try clear c24
              try clear hcz11_0
              try clear hcz11_1
              try clear hcz11_2
              try clear hcz11_3
              try clear hcz16_0
              try clear hcz16_1
              try clear hcz16_2
              try clear hcz16_3
              try clear hcz19_0
              try clear hcz19_1
              try clear hcz19_2
              try clear hcz19_3
              try clear hcz23_0
              try clear hcz23_1
              try clear hcz23_2
              try clear hcz23_3
              try clear hcz25_0
              try clear hcz25_1
              try clear hcz25_2
              try clear hcz25_3
              try clear hcz8_0
              try clear hcz8_1
              try clear hcz8_2
              try clear hcz8_3
              try clear hfz11_0
              try clear hfz11_1
              try clear hfz11_2
              try clear hfz11_3
              try clear hfz16_0
              try clear hfz16_1
              try clear hfz16_2
              try clear hfz16_3
              try clear hfz19_0
              try clear hfz19_1
              try clear hfz19_2
              try clear hfz19_3
              try clear hfz23_0
              try clear hfz23_1
              try clear hfz23_2
              try clear hfz23_3
              try clear hfz25_0
              try clear hfz25_1
              try clear hfz25_2
              try clear hfz25_3
              try clear hfz8_0
              try clear hfz8_1
              try clear hfz8_2
              try clear hfz8_3
              try clear hx377_0
              try clear hx377_1
              try clear hx377_2
              try clear hx377_3
              try clear hx378_0
              try clear hx378_1
              try clear hx378_2
              try clear hx378_3
              try clear p2
              try clear p3
              try clear p377
              try clear p378
              try clear q3
              try clear q377
              try clear q378
              obtain ⟨kq, x46_14, rfl, HA, HJ14, BK376, BK379, HB⟩ := hcut
              cases kq with
              | zero => exact absurd HA.out (by simp [clinkerref10_State.j1])
              | succ kj14 =>
                have H := HA.out
                clear HA
                simp only [clinkerref10_State.j1] at H
                by_cases c26 : x46_14 = true
                · subst c26
                  have H1 : (some 1) = some r := by rw [if_pos rfl] at H; exact H
                  clear H
                  have H := H1
                  clear H1
                  obtain rfl := Option.some.inj H
                  go_wp2
                  go_ret
                  exact ⟨by first | rfl | (simp [errW_none, errW_some] <;> rfl) | (simp [*, errW_none, errW_some] <;> rfl), by repeat (first | (with_reducible first | exact HB.out | apply below_alloc | apply pw_below_drewN | apply below_drew1 | refine below_set ?_ GE376.out | refine below_set ?_ GE379.out) | exact HB.out)⟩
                · replace c26 := Bool.eq_false_iff.mpr c26
                  subst c26
                  have H1 : (clinkerref10_State.l0 kj14 0 ((rd_T50 l0_0 a2).f0) ((rd_T50 l0_0 a2).f1) ((rd_T50 l0_0 a2).f2) ((rd_T50 l0_0 a2).f3)) = some r := by rw [if_neg (show ¬ (false = true) by decide)] at H; exact H
                  clear H
                  have H := H1
                  clear H1
                  have H' := Aside0.mk H
                  clear H
                  go_wp2
                  go_loopg [8] kj14 (fun kq v8 w' => ∃ (x8_3 : Int), v8 = .int .i64 x8_3 ∧ Aside0 (clinkerref10_State.l0 kq x8_3 ((rd_T50 l0_0 a2).f0) ((rd_T50 l0_0 a2).f1) ((rd_T50 l0_0 a2).f2) ((rd_T50 l0_0 a2).f3) = some r) ∧ Aside0 (kq ≤ kj14) ∧ Aside0 (w'.heap[gb376]? = some (.cells #[(.slice (some ad378) l0_0.length c0_0), .bool a0_1, .bool a0_2, .int .i64 a0_3] 29 (0, 0))) ∧ Aside0 (w'.heap[gb379]? = some (.cells #[(.slice A378_0 ((rd_T50 l0_0 a2).f0).length c378_0), .int .i64 ((rd_T50 l0_0 a2).f1), .int .i64 ((rd_T50 l0_0 a2).f2), .bool ((rd_T50 l0_0 a2).f3)] 50 (0, 0))) ∧ Aside0 (Below w.heap.size w w'))
                  case atStart => exact ⟨(0), (by first | rfl | (simp; done) | (simp [*]; done)), H', ⟨Nat.le_refl _⟩, ⟨by (with_reducible repeat (first | refine blk_drewN ?_ _ | refine blk_drew ?_ | refine blk_alloc ?_ _)); exact BK376.out⟩, ⟨by (with_reducible repeat (first | refine blk_drewN ?_ _ | refine blk_drew ?_ | refine blk_alloc ?_ _)); exact BK379.out⟩, ⟨by repeat (first | (with_reducible first | exact HB.out | apply below_alloc | apply pw_below_drewN | apply below_drew1 | refine below_set ?_ GE376.out | refine below_set ?_ GE379.out) | exact HB.out)⟩⟩
                  case round =>
                    clear H'
                    try clear c1
                    try clear c2
                    try clear p2
                    try clear c3
                    try clear p3
                    try clear q3
                    try clear hx3
                    try clear c6
                    try clear c6b0
                    try clear c7
                    try clear c7b0
                    try clear c9
                    try clear c9b0
                    try clear c10
                    try clear c10b0
                    try clear c12
                    try clear c13
                    try clear c13b0
                    try clear c14
                    try clear c14b0
                    try clear c18
                    try clear c20
                    try clear c20b0
                    try clear c20b1
                    try clear c21
                    try clear c21b0
                    try clear c22
                    try clear c24
                    try clear c26
                    try clear hcz11_0
                    try clear hcz11_1
                    try clear hcz11_2
                    try clear hcz11_3
                    try clear hcz16_0
                    try clear hcz16_1
                    try clear hcz16_2
                    try clear hcz16_3
                    try clear hcz19_0
                    try clear hcz19_1
                    try clear hcz19_2
                    try clear hcz19_3
                    try clear hcz23_0
                    try clear hcz23_1
                    try clear hcz23_2
                    try clear hcz23_3
                    try clear hcz25_0
                    try clear hcz25_1
                    try clear hcz25_2
                    try clear hcz25_3
                    try clear hcz8_0
                    try clear hcz8_1
                    try clear hcz8_2
                    try clear hcz8_3
                    try clear hfz11_0
                    try clear hfz11_1
                    try clear hfz11_2
                    try clear hfz11_3
                    try clear hfz16_0
                    try clear hfz16_1
                    try clear hfz16_2
                    try clear hfz16_3
                    try clear hfz19_0
                    try clear hfz19_1
                    try clear hfz19_2
                    try clear hfz19_3
                    try clear hfz23_0
                    try clear hfz23_1
                    try clear hfz23_2
                    try clear hfz23_3
                    try clear hfz25_0
                    try clear hfz25_1
                    try clear hfz25_2
                    try clear hfz25_3
                    try clear hfz8_0
                    try clear hfz8_1
                    try clear hfz8_2
                    try clear hfz8_3
                    try clear hx377_0
                    try clear hx377_1
                    try clear hx377_2
                    try clear hx377_3
                    try clear hx378_0
                    try clear hx378_1
                    try clear hx378_2
                    try clear hx378_3
                    try clear p2
                    try clear p3
                    try clear p377
                    try clear p378
                    try clear q3
                    try clear q377
                    try clear q378
                    obtain ⟨x8_3, rfl, HA, HK3, BK376, BK379, HB⟩ := hrel
                    cases gk with
                    | zero => exact absurd HA.out (by simp [clinkerref10_State.l0])
                    | succ k3 =>
                      have H := HA.out
                      clear HA
                      simp only [clinkerref10_State.l0] at H
                      by_cases c27 : x8_3 < (((rd_T50 l0_0 a2).f0).length : Int)
                      · rw [if_pos c27] at H
                        have c27b0 : decide (x8_3 < (((rd_T50 l0_0 a2).f0).length : Int)) = true := decide_eq_true c27
                        clear c27
                        by_cases c28 : 0 ≤ x8_3
                        · rw [if_pos c28] at H
                          have c28b0 : decide (0 ≤ x8_3) = true := decide_eq_true c28
                          clear c28
                          obtain ⟨bq29, hbq29⟩ : ∃ b_ : Bool, b_ = ((rd_T52 ((rd_T50 l0_0 a2).f0) x8_3).f0) := ⟨_, rfl⟩
                          replace H : (if bq29 = true then (some 2) else (clinkerref10_State.l0 k3 (wrap64 (x8_3 + 1)) ((rd_T50 l0_0 a2).f0) ((rd_T50 l0_0 a2).f1) ((rd_T50 l0_0 a2).f2) ((rd_T50 l0_0 a2).f3))) = some r := by rw [← hbq29] at H; exact H
                          have Nbq29 := Aside0.mk hbq29
                          clear hbq29
                          by_cases c30 : bq29 = true
                          · subst c30
                            have H1 : (some 2) = some r := by rw [if_pos rfl] at H; exact H
                            clear H
                            have H := H1
                            clear H1
                            obtain rfl := Option.some.inj H
                            have hnb31 := NB379_376.out
                            have hnc31 := NB376_379.out
                            have hcz32_0 : wr.cell? ⟨gb379, 0, none⟩ = some (.slice A378_0 ((rd_T50 l0_0 a2).f0).length c378_0) := (blk_cell BK379.out 0).trans rfl
                            have hcz32_1 : wr.cell? ⟨gb379, 1, none⟩ = some (.int .i64 ((rd_T50 l0_0 a2).f1)) := (blk_cell BK379.out 1).trans rfl
                            have hcz32_2 : wr.cell? ⟨gb379, 2, none⟩ = some (.int .i64 ((rd_T50 l0_0 a2).f2)) := (blk_cell BK379.out 2).trans rfl
                            have hcz32_3 : wr.cell? ⟨gb379, 3, none⟩ = some (.bool ((rd_T50 l0_0 a2).f3)) := (blk_cell BK379.out 3).trans rfl
                            have hfz32_0 := blk_frozen BK379.out 0
                            have hfz32_1 := blk_frozen BK379.out 1
                            have hfz32_2 := blk_frozen BK379.out 2
                            have hfz32_3 := blk_frozen BK379.out 3
                            have p380 : 0 ≤ (x8_3 : Int) := of_decide_eq_true (by first | (with_reducible assumption) | assumption)
                            have q380 : x8_3 < (((rd_T50 l0_0 a2).f0).length : Int) := of_decide_eq_true (by first | (with_reducible assumption) | assumption)
                            obtain ⟨ad380, e380, hx380_0, hx380_1, hx380_2⟩ := at_T52 HR378_0.out x8_3 p380 q380
                            (try rw [← Nbq29.out] at hx380_0)
                            cases e380
                            replace hx380_0 := (HB.out.cell (World.block_lt_of_cell? w _ hx380_0)).trans hx380_0
                            replace hx380_1 := (HB.out.cell (World.block_lt_of_cell? w _ hx380_1)).trans hx380_1
                            replace hx380_2 := (HB.out.cell (World.block_lt_of_cell? w _ hx380_2)).trans hx380_2
                            replace p380 := eq_true p380
                            replace q380 := eq_true q380
                            go_wp2
                            go_ret
                            exact ⟨by first | rfl | (simp [errW_none, errW_some] <;> rfl) | (simp [*, errW_none, errW_some] <;> rfl), by repeat (first | (with_reducible first | exact HB.out | apply below_alloc | apply pw_below_drewN | apply below_drew1 | refine below_set ?_ GE376.out | refine below_set ?_ GE379.out) | exact HB.out)⟩
                          · replace c30 := Bool.eq_false_iff.mpr c30
                            subst c30
                            have H1 : (clinkerref10_State.l0 k3 (wrap64 (x8_3 + 1)) ((rd_T50 l0_0 a2).f0) ((rd_T50 l0_0 a2).f1) ((rd_T50 l0_0 a2).f2) ((rd_T50 l0_0 a2).f3)) = some r := by rw [if_neg (show ¬ (false = true) by decide)] at H; exact H
                            clear H
                            have H := H1
                            clear H1
                            have H' := Aside0.mk H
                            clear H
                            have hnb33 := NB379_376.out
                            have hnc33 := NB376_379.out
                            have hcz34_0 : wr.cell? ⟨gb379, 0, none⟩ = some (.slice A378_0 ((rd_T50 l0_0 a2).f0).length c378_0) := (blk_cell BK379.out 0).trans rfl
                            have hcz34_1 : wr.cell? ⟨gb379, 1, none⟩ = some (.int .i64 ((rd_T50 l0_0 a2).f1)) := (blk_cell BK379.out 1).trans rfl
                            have hcz34_2 : wr.cell? ⟨gb379, 2, none⟩ = some (.int .i64 ((rd_T50 l0_0 a2).f2)) := (blk_cell BK379.out 2).trans rfl
                            have hcz34_3 : wr.cell? ⟨gb379, 3, none⟩ = some (.bool ((rd_T50 l0_0 a2).f3)) := (blk_cell BK379.out 3).trans rfl
                            have hfz34_0 := blk_frozen BK379.out 0
                            have hfz34_1 := blk_frozen BK379.out 1
                            have hfz34_2 := blk_frozen BK379.out 2
                            have hfz34_3 := blk_frozen BK379.out 3
                            have p380 : 0 ≤ (x8_3 : Int) := of_decide_eq_true (by first | (with_reducible assumption) | assumption)
                            have q380 : x8_3 < (((rd_T50 l0_0 a2).f0).length : Int) := of_decide_eq_true (by first | (with_reducible assumption) | assumption)
                            obtain ⟨ad380, e380, hx380_0, hx380_1, hx380_2⟩ := at_T52 HR378_0.out x8_3 p380 q380
                            (try rw [← Nbq29.out] at hx380_0)
                            cases e380
                            replace hx380_0 := (HB.out.cell (World.block_lt_of_cell? w _ hx380_0)).trans hx380_0
                            replace hx380_1 := (HB.out.cell (World.block_lt_of_cell? w _ hx380_1)).trans hx380_1
                            replace hx380_2 := (HB.out.cell (World.block_lt_of_cell? w _ hx380_2)).trans hx380_2
                            replace p380 := eq_true p380
                            replace q380 := eq_true q380
                            go_wp2
                            go_roundg k3
                            case measure => have := HJ3.out; have := HJ14.out; have := HK3.out; omega
                            case rel => exact ⟨(wrap64 (x8_3 + 1)), (by first | rfl | (simp; done) | (simp [*]; done)), H', ⟨by have := HJ3.out; have := HJ14.out; have := HK3.out; omega⟩, ⟨by (with_reducible repeat (first | refine blk_drewN ?_ _ | refine blk_drew ?_ | refine blk_alloc ?_ _)); exact BK376.out⟩, ⟨by (with_reducible repeat (first | refine blk_drewN ?_ _ | refine blk_drew ?_ | refine blk_alloc ?_ _)); exact BK379.out⟩, ⟨by repeat (first | (with_reducible first | exact HB.out | apply below_alloc | apply pw_below_drewN | apply below_drew1 | refine below_set ?_ GE376.out | refine below_set ?_ GE379.out) | exact HB.out)⟩⟩
                        · rw [if_neg c28] at H
                          exact absurd H (by simp)
                      · rw [if_neg c27] at H
                        have c27b0 : decide (x8_3 < (((rd_T50 l0_0 a2).f0).length : Int)) = false := decide_eq_false c27
                        clear c27
                        by_cases c35 : ((rd_T50 l0_0 a2).f1) = 0
                        · rw [if_pos c35] at H
                          have c35b0 : (((rd_T50 l0_0 a2).f1) == 0) = true := beq_iff_eq.mpr c35
                          have c35b1 : (((rd_T50 l0_0 a2).f1) != 0) = false := bne_eq_false_iff_eq.mpr c35
                          clear c35
                          obtain rfl := Option.some.inj H
                          have hnb36 := NB379_376.out
                          have hnc36 := NB376_379.out
                          have hcz37_0 : wr.cell? ⟨gb379, 0, none⟩ = some (.slice A378_0 ((rd_T50 l0_0 a2).f0).length c378_0) := (blk_cell BK379.out 0).trans rfl
                          have hcz37_1 : wr.cell? ⟨gb379, 1, none⟩ = some (.int .i64 ((rd_T50 l0_0 a2).f1)) := (blk_cell BK379.out 1).trans rfl
                          have hcz37_2 : wr.cell? ⟨gb379, 2, none⟩ = some (.int .i64 ((rd_T50 l0_0 a2).f2)) := (blk_cell BK379.out 2).trans rfl
                          have hcz37_3 : wr.cell? ⟨gb379, 3, none⟩ = some (.bool ((rd_T50 l0_0 a2).f3)) := (blk_cell BK379.out 3).trans rfl
                          have hfz37_0 := blk_frozen BK379.out 0
                          have hfz37_1 := blk_frozen BK379.out 1
                          have hfz37_2 := blk_frozen BK379.out 2
                          have hfz37_3 := blk_frozen BK379.out 3
                          go_wp2
                          go_ret
                          exact ⟨by first | rfl | (simp [errW_none, errW_some] <;> rfl) | (simp [*, errW_none, errW_some] <;> rfl), by repeat (first | (with_reducible first | exact HB.out | apply below_alloc | apply pw_below_drewN | apply below_drew1 | refine below_set ?_ GE376.out | refine below_set ?_ GE379.out) | exact HB.out)⟩
                        · rw [if_neg c35] at H
                          have c35b0 : (((rd_T50 l0_0 a2).f1) == 0) = false := beq_eq_false_iff_ne.mpr c35
                          have c35b1 : (((rd_T50 l0_0 a2).f1) != 0) = true := bne_iff_ne.mpr c35
                          obtain rfl := Option.some.inj H
                          have hnb38 := NB379_376.out
                          have hnc38 := NB376_379.out
                          have hcz39_0 : wr.cell? ⟨gb379, 0, none⟩ = some (.slice A378_0 ((rd_T50 l0_0 a2).f0).length c378_0) := (blk_cell BK379.out 0).trans rfl
                          have hcz39_1 : wr.cell? ⟨gb379, 1, none⟩ = some (.int .i64 ((rd_T50 l0_0 a2).f1)) := (blk_cell BK379.out 1).trans rfl
                          have hcz39_2 : wr.cell? ⟨gb379, 2, none⟩ = some (.int .i64 ((rd_T50 l0_0 a2).f2)) := (blk_cell BK379.out 2).trans rfl
                          have hcz39_3 : wr.cell? ⟨gb379, 3, none⟩ = some (.bool ((rd_T50 l0_0 a2).f3)) := (blk_cell BK379.out 3).trans rfl
                          have hfz39_0 := blk_frozen BK379.out 0
                          have hfz39_1 := blk_frozen BK379.out 1
                          have hfz39_2 := blk_frozen BK379.out 2
                          have hfz39_3 := blk_frozen BK379.out 3
                          go_wp2
                          go_ret
                          exact ⟨by first | rfl | (simp [errW_none, errW_some] <;> rfl) | (simp [*, errW_none, errW_some] <;> rfl), by repeat (first | (with_reducible first | exact HB.out | apply below_alloc | apply pw_below_drewN | apply below_drew1 | refine below_set ?_ GE376.out | refine below_set ?_ GE379.out) | exact HB.out)⟩
          · rw [if_neg c14] at H
            exact absurd H (by simp)
        · rw [if_neg c13] at H
          exact absurd H (by simp)

end Go.Proofs.Ytnfappdaoeiilaa.PD
