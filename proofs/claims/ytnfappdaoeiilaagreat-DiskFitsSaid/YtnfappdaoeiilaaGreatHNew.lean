/- Written for this claim: nand.New makes the chip that its Lean function says; by a program of this session's (wip/tools/patch_new.py) out of the kit's print of a like function, then turned to the closure by hand. -/
import Derived.Test.YtnfappdaoeiilaaGreatPDx0
import Derived.Test.YtnfappdaoeiilaaGreatHA
namespace Go.Proofs.YtnfappdaoeiilaaGreat.PD
open Go.RowKit Go.Proofs.YtnfappdaoeiilaaGreatW.PrintWords Go.Proofs.YtnfappdaoeiilaaGreatW.PrintLast Go.Proofs.YtnfappdaoeiilaaGreatW.PrintMore
attribute [local go_sem] max2_int min2_int max_two min_two max_three min_three max_four min_four   -- for this text's walks alone
set_option linter.unusedVariables false
set_option linter.unusedSimpArgs false
def slices_ContainsFunc_int_int.f (l : List Int) (n : Int) : Option Bool := some (l.any fun x => decide (x < 0) || decide (x ≥ n))
set_option maxHeartbeats 1000000 in
theorem new1_calls (n x : Int) (B : Nat) (W : World) (hc : W.cell? ⟨B, 0, none⟩ = some (.int .i64 n)) :
    Calls Tryz.prog 44 #[.int .i64 x, .pointer (some ⟨B, 0, none⟩)] W fun e W' => e = .returned (.bool (decide (x < 0) || decide (x ≥ n))) ∧ Below W.heap.size W W' := by
  by_cases h : x < 0
  · have hb : decide (x < 0) = true := by simpa using h
    go_enter Tryz.func44, Tryz.ntmps44
    go_wp2
    go_ret
    exact ⟨by rw [hb]; rfl, Below.refl _ _⟩
  · have hb : decide (x < 0) = false := by simpa using h
    go_enter Tryz.func44, Tryz.ntmps44
    go_wp2
    all_goals (go_ret; exact ⟨by first | rfl | (rw [hb]; simp_all), Below.refl _ _⟩)
theorem newOdd_calls (A0 : Option Addr) (c : Nat) (l : List Int) (n : Int) (r : Bool) (B : Nat) (w : World) (hcB : w.cell? ⟨B, 0, none⟩ = some (.int .i64 n)) (hr : Kd.C (Kd.int .i64) w A0 l.length l) (hc : l.length ≤ c) (h : slices_ContainsFunc_int_int.f l n = some r) :
    Calls Tryz.prog 45 #[.slice A0 l.length c, .func (.func 44) #[] #[.pointer (some ⟨B, 0, none⟩)]] w fun e w' => e = .returned (.bool r) ∧ Below w.heap.size w w' := by
  simp only [slices_ContainsFunc_int_int.f, Option.some.injEq] at h
  subst h
  exact cntI_calls _ 44 #[.pointer (some ⟨B, 0, none⟩)] (enters_of Tryz.func44 (by kernel_rfl) rfl) A0 c l w hr hc
    (fun W x hb => (new1_calls n x B W ((hb.cell (World.block_lt_of_cell? w _ hcB)).trans hcB)).mono fun _ _ ⟨he, hB⟩ => ⟨he, hb.trans (hB.mono hb.size)⟩)
/-! ### nand_New: function 24 -/
mutual
def nand_New.j0 : Nat → Int → List Int → Int → Bool → Option ((List (S53)) × Bool × Bool × Int × Int)
  | 0, _, _, _, _ => none
  | k + 1, x1, x2, x3, x32 => if x32 = true then (some (([] : List (S53)), false, false, 0, 1)) else (if 0 ≤ x3 then (if (x3 : Int).toNat ≤ 5864062014805 then ((some (List.replicate (x3 : Int).toNat z53 : List (S53))).bind fun y232 => (nand_New.l0 k x1 x2 (y232.length : Int) 0 y232 false false 0)) else (none)) else (none))
def nand_New.l0 : Nat → Int → List Int → Int → Int → List (S53) → Bool → Bool → Int → Option ((List (S53)) × Bool × Bool × Int × Int)
  | 0, _, _, _, _, _, _, _, _ => none
  | k + 1, x1, x2, x39, x40, x236000, x236001, x236002, x236003 => if x40 < x39 then (if 0 ≤ x1 then (if (x1 : Int).toNat ≤ 7036874417766 then (if 0 ≤ x40 then (if x40 < (x236000.length : Int) then (nand_New.l0 k x1 x2 x39 (wrap64 (x40 + 1)) (x236000.set (x40 : Int).toNat (⟨(List.replicate (x1 : Int).toNat z65), (rd_T53 x236000 x40).f1, (rd_T53 x236000 x40).f2, (rd_T53 x236000 x40).f3⟩ : S53)) x236001 x236002 x236003) else (none)) else (none)) else (none)) else (none)) else (nand_New.l1 k x2 (x2.length : Int) 0 x236000 x236001 x236002 x236003)
def nand_New.l1 : Nat → List Int → Int → Int → List (S53) → Bool → Bool → Int → Option ((List (S53)) × Bool × Bool × Int × Int)
  | 0, _, _, _, _, _, _, _ => none
  | k + 1, x51, x52, x53, x236000, x236001, x236002, x236003 => if x53 < x52 then (if 0 ≤ x53 then (if x53 < (x51.length : Int) then (if 0 ≤ (rd x51 x53) then (if (rd x51 x53) < (x236000.length : Int) then (nand_New.l1 k x51 x52 (wrap64 (x53 + 1)) (x236000.set ((rd x51 x53) : Int).toNat (⟨(rd_T53 x236000 (rd x51 x53)).f0, (rd_T53 x236000 (rd x51 x53)).f1, (rd_T53 x236000 (rd x51 x53)).f2, true⟩ : S53)) x236001 x236002 x236003) else (none)) else (none)) else (none)) else (none)) else (some (x236000, x236001, x236002, x236003, 0))
end
def nand_New.f (k : Nat) (a0 : Int) (a1 : Int) (l2 : List Int) : Option ((List (S53)) × Bool × Bool × Int × Int) := if a0 < 1 then (nand_New.j0 k a1 l2 a0 true) else (if a0 > 32 then (nand_New.j0 k a1 l2 a0 true) else (if a1 < 1 then (nand_New.j0 k a1 l2 a0 true) else (if a1 > 16 then (nand_New.j0 k a1 l2 a0 true) else ((slices_ContainsFunc_int_int.f l2 a0).bind fun t231 => (nand_New.j0 k a1 l2 a0 t231)))))
theorem nand_New.mono_l : ∀ k, (∀ y0 y1 y2 y3, LeO (nand_New.j0 k y0 y1 y2 y3) (nand_New.j0 (k + 1) y0 y1 y2 y3)) ∧ (∀ y0 y1 y2 y3 y4 y5 y6 y7, LeO (nand_New.l0 k y0 y1 y2 y3 y4 y5 y6 y7) (nand_New.l0 (k + 1) y0 y1 y2 y3 y4 y5 y6 y7)) ∧ (∀ y0 y1 y2 y3 y4 y5 y6, LeO (nand_New.l1 k y0 y1 y2 y3 y4 y5 y6) (nand_New.l1 (k + 1) y0 y1 y2 y3 y4 y5 y6))
  | 0 => ⟨fun _ _ _ _ r h => by simp [nand_New.j0] at h, fun _ _ _ _ _ _ _ _ r h => by simp [nand_New.l0] at h, fun _ _ _ _ _ _ _ r h => by simp [nand_New.l1] at h⟩
  | k + 1 => by
    obtain ⟨ih0, ih1, ih2⟩ := nand_New.mono_l k
    refine ⟨?_, ?_, ?_⟩
    · intro y0 y1 y2 y3
      unfold nand_New.j0
      repeat' first
      | (with_reducible exact ih0 _ _ _ _)
      | (with_reducible exact ih1 _ _ _ _ _ _ _ _)
      | (with_reducible exact ih2 _ _ _ _ _ _ _)
      | (with_reducible exact LeO.refl _)
      | (with_reducible exact LeO.none _)
      | (with_reducible refine LeO.ite ?_ ?_)
      | (with_reducible refine LeO.bind ?_ (fun _ => ?_))
      | exact ih0 _ _ _ _
      | exact ih1 _ _ _ _ _ _ _ _
      | exact ih2 _ _ _ _ _ _ _
      | exact LeO.none _
      | refine LeO.ite ?_ ?_
      | refine LeO.bind ?_ (fun _ => ?_)
    · intro y0 y1 y2 y3 y4 y5 y6 y7
      unfold nand_New.l0
      repeat' first
      | (with_reducible exact ih0 _ _ _ _)
      | (with_reducible exact ih1 _ _ _ _ _ _ _ _)
      | (with_reducible exact ih2 _ _ _ _ _ _ _)
      | (with_reducible exact LeO.refl _)
      | (with_reducible exact LeO.none _)
      | (with_reducible refine LeO.ite ?_ ?_)
      | (with_reducible refine LeO.bind ?_ (fun _ => ?_))
      | exact ih0 _ _ _ _
      | exact ih1 _ _ _ _ _ _ _ _
      | exact ih2 _ _ _ _ _ _ _
      | exact LeO.none _
      | refine LeO.ite ?_ ?_
      | refine LeO.bind ?_ (fun _ => ?_)
    · intro y0 y1 y2 y3 y4 y5 y6
      unfold nand_New.l1
      repeat' first
      | (with_reducible exact ih0 _ _ _ _)
      | (with_reducible exact ih1 _ _ _ _ _ _ _ _)
      | (with_reducible exact ih2 _ _ _ _ _ _ _)
      | (with_reducible exact LeO.refl _)
      | (with_reducible exact LeO.none _)
      | (with_reducible refine LeO.ite ?_ ?_)
      | (with_reducible refine LeO.bind ?_ (fun _ => ?_))
      | exact ih0 _ _ _ _
      | exact ih1 _ _ _ _ _ _ _ _
      | exact ih2 _ _ _ _ _ _ _
      | exact LeO.none _
      | refine LeO.ite ?_ ?_
      | refine LeO.bind ?_ (fun _ => ?_)
theorem nand_New.mono : ∀ a0 a1 a2 k, LeO (nand_New.f k a0 a1 a2) (nand_New.f (k + 1) a0 a1 a2) := by
  intro a0 a1 a2 k
  obtain ⟨ih0, ih1, ih2⟩ := nand_New.mono_l k
  unfold nand_New.f
  repeat' first
      | (with_reducible exact ih0 _ _ _ _)
      | (with_reducible exact ih1 _ _ _ _ _ _ _ _)
      | (with_reducible exact ih2 _ _ _ _ _ _ _)
      | (with_reducible exact LeO.refl _)
      | (with_reducible exact LeO.none _)
      | (with_reducible refine LeO.ite ?_ ?_)
      | (with_reducible refine LeO.bind ?_ (fun _ => ?_))
      | exact ih0 _ _ _ _
      | exact ih1 _ _ _ _ _ _ _ _
      | exact ih2 _ _ _ _ _ _ _
      | exact LeO.none _
      | refine LeO.ite ?_ ?_
      | refine LeO.bind ?_ (fun _ => ?_)
def nand_New.T8 : Bool × List (List Nat × List Nat) := (true, [([], []), ([0], [0]), ([], []), ([], []), ([3, 3], [3]), ([1, 2, 0, 1, 2, 3, 4], [1, 2]), ([5, 0, 1, 2, 3, 4], [5]), ([6, 4, 0, 1, 2, 3, 4], [4, 6])])
def nand_New.B8 : List Nat := [0, 1, 0, 0, 8, 31, 63, 127]
theorem nand_New.tab8 : rtab .any (opsOf Tryz.f24 8) = nand_New.T8 := by kernel_rfl
theorem nand_New.bits8 : waitsOk nand_New.T8.2 nand_New.B8 = true := by kernel_rfl
set_option maxHeartbeats 8000000 in
set_option maxRecDepth 100000 in
theorem nand_New.calls (k : Nat) (a0 : Int) (a1 : Int) (A2 : Option Addr) (c2 : Nat) (l2 : List Int) (r1 : List (S53)) (r2 : Bool) (r3 : Bool) (r4 : Int) (r5 : Int) (w : World) (hr2 : Kd.C (Kd.int .i64) w A2 l2.length l2) (hc2 : l2.length ≤ c2) (h : nand_New.f k a0 a1 l2 = some (r1, r2, r3, r4, r5)) :
    Calls Tryz.prog 24 #[.int .i64 a0, .int .i64 a1, .slice A2 l2.length c2] w fun e w' => ∃ v0_ : Value, e = .returned (.tuple #[.agg #[v0_, .bool r2, .bool r3, .int .i64 r4], .int .i64 r5]) ∧ Kd.N k53 53 w' w.heap.size (fun k_ => (w.heap.size ≤ k_)) v0_ r1 ∧ Below w.heap.size w w' := by
  have hu28 := Tryz.underlying28
  have HR2 := Aside0.mk hr2
  have HC2 := Aside0.mk hc2
  clear hr2 hc2
  have HB := Aside0.mk (Below.refl w.heap.size w)
  have H : (if a0 < 1 then (nand_New.j0 k a1 l2 a0 true) else (if a0 > 32 then (nand_New.j0 k a1 l2 a0 true) else (if a1 < 1 then (nand_New.j0 k a1 l2 a0 true) else (if a1 > 16 then (nand_New.j0 k a1 l2 a0 true) else ((slices_ContainsFunc_int_int.f l2 a0).bind fun t231 => (nand_New.j0 k a1 l2 a0 t231)))))) = some (r1, r2, r3, r4, r5) := h
  clear h
  have HC4 := Aside0.mk H
  clear H
  go_enter Tryz.func24, Tryz.ntmps24
  go_upto_region 2 with (first | ((with_reducible refine gate_dst (N := 3) rfl ?_); refine box_event ?hg (N := 3) ?hd (cs := #[.int .i64 a0]) (t := 3) ?hr ?_; (case hd => rfl); (case hg => rfl); (case hr => first | (go_simp; done) | (go_simp; rfl)); intro gbB hg w1 hbox hb; have n0_ := Aside0.mk (below_step HB.out hb); have BKB := Aside0.mk hbox; clear HB; have HB := n0_; clear n0_; clear hb hbox hg) | ((with_reducible refine gate_dst (N := 6) rfl ?_); refine box_event ?hg (N := 6) ?hd (cs := #[.slice none 0 0, .bool false, .bool false, .int .i64 0]) (t := 28) ?hr ?_; (case hd => rfl); (case hg => rfl); (case hr => first | (go_simp; done) | (go_simp; rfl)); intro gb230 hg w5 hbox hb; have n0_ := Aside0.mk (below_step (by repeat (first | (with_reducible first | exact HB.out | apply below_alloc | apply pw_below_drewN | apply below_drew1) | exact HB.out)) hb); have n1_ := Aside0.mk (hbox); have n2_ := Aside0.mk ((by rw [hg]; exact (below_size (by repeat (first | (with_reducible first | exact HB.out | apply below_alloc | apply pw_below_drewN | apply below_drew1) | exact HB.out))) : w.heap.size ≤ gb230)); have n3_ := Aside0.mk ((by rw [hg]; exact (below_size (by repeat (first | (with_reducible first | exact HB.out | apply below_alloc | apply pw_below_drewN | apply below_drew1) | exact HB.out))) : w.heap.size ≤ gb230)); have nB_ := Aside0.mk (blk_below (g := gbB) (o := .cells #[.int .i64 a0] 3 (0, 0)) (by (with_reducible repeat (first | refine blk_drewN ?_ _ | refine blk_drew ?_ | refine blk_alloc ?_ _)); exact BKB.out) hb); clear BKB; have BKB := nB_; clear nB_; clear HB; have HB := n0_; have BK230 := n1_; have GW230 := n2_; have GE230 := n3_; clear n0_ n1_ n2_ n3_; clear hb hbox hg))
  (try simp only [Act.put, List.setIfInBounds_toArray, List.set_cons_zero, List.set_cons_succ])
  go_cut [32] (fun v32 wc => ∃ (kq : Nat) (x32_3 : Bool), v32 = .bool x32_3 ∧ Aside0 (nand_New.j0 kq a1 l2 a0 x32_3 = some (r1, r2, r3, r4, r5)) ∧ Aside0 (kq ≤ k) ∧ Aside0 (wc.heap[gb230]? = some (.cells #[(.slice none 0 0), .bool false, .bool false, .int .i64 0] 28 (0, 0))) ∧ Aside0 (wc.heap[gbB]? = some (.cells #[.int .i64 a0] 3 (0, 0))) ∧ Aside0 (Below w.heap.size w wc))
  case first =>
    have hcB : World.cell? _ ⟨gbB, 0, none⟩ = some (.int .i64 a0) := (blk_cell BKB.out 0).trans rfl
    have H := HC4.out
    clear HC4
    by_cases c6 : a0 < 1
    · rw [if_pos c6] at H
      have c6b0 : decide (a0 < 1) = true := decide_eq_true c6
      clear c6
      (first | rw [c6b0] | (simp only [i64_w, i32_w]; rw [c6b0]) | skip)
      have H' := Aside0.mk H
      clear H
      go_wp2
      go_meet
      case rel => exact ⟨_, (true), (by first | rfl | (simp; done) | (simp [*]; done)), H', ⟨by first | omega | exact Nat.le_refl _⟩, ⟨by (with_reducible repeat (first | refine blk_drewN ?_ _ | refine blk_drew ?_ | refine blk_alloc ?_ _)); exact BK230.out⟩, ⟨by (with_reducible repeat (first | refine blk_drewN ?_ _ | refine blk_drew ?_ | refine blk_alloc ?_ _)); exact BKB.out⟩, ⟨by repeat (first | (with_reducible first | exact HB.out | apply below_alloc | apply pw_below_drewN | apply below_drew1 | refine below_set ?_ GE230.out) | exact HB.out)⟩⟩
    · rw [if_neg c6] at H
      have c6b0 : decide (a0 < 1) = false := decide_eq_false c6
      clear c6
      (first | rw [c6b0] | (simp only [i64_w, i32_w]; rw [c6b0]) | skip)
      by_cases c7 : a0 > 32
      · rw [if_pos c7] at H
        have c7b0 : decide (32 < a0) = true := decide_eq_true c7
        clear c7
        have H' := Aside0.mk H
        clear H
        go_wp2
        go_meet
        case rel => exact ⟨_, (true), (by first | rfl | (simp; done) | (simp [*]; done)), H', ⟨by first | omega | exact Nat.le_refl _⟩, ⟨by (with_reducible repeat (first | refine blk_drewN ?_ _ | refine blk_drew ?_ | refine blk_alloc ?_ _)); exact BK230.out⟩, ⟨by (with_reducible repeat (first | refine blk_drewN ?_ _ | refine blk_drew ?_ | refine blk_alloc ?_ _)); exact BKB.out⟩, ⟨by repeat (first | (with_reducible first | exact HB.out | apply below_alloc | apply pw_below_drewN | apply below_drew1 | refine below_set ?_ GE230.out) | exact HB.out)⟩⟩
      · rw [if_neg c7] at H
        have c7b0 : decide (32 < a0) = false := decide_eq_false c7
        clear c7
        by_cases c8 : a1 < 1
        · rw [if_pos c8] at H
          have c8b0 : decide (a1 < 1) = true := decide_eq_true c8
          clear c8
          have H' := Aside0.mk H
          clear H
          go_wp2
          go_meet
          case rel => exact ⟨_, (true), (by first | rfl | (simp; done) | (simp [*]; done)), H', ⟨by first | omega | exact Nat.le_refl _⟩, ⟨by (with_reducible repeat (first | refine blk_drewN ?_ _ | refine blk_drew ?_ | refine blk_alloc ?_ _)); exact BK230.out⟩, ⟨by (with_reducible repeat (first | refine blk_drewN ?_ _ | refine blk_drew ?_ | refine blk_alloc ?_ _)); exact BKB.out⟩, ⟨by repeat (first | (with_reducible first | exact HB.out | apply below_alloc | apply pw_below_drewN | apply below_drew1 | refine below_set ?_ GE230.out) | exact HB.out)⟩⟩
        · rw [if_neg c8] at H
          have c8b0 : decide (a1 < 1) = false := decide_eq_false c8
          clear c8
          by_cases c9 : a1 > 16
          · rw [if_pos c9] at H
            have c9b0 : decide (16 < a1) = true := decide_eq_true c9
            clear c9
            have H' := Aside0.mk H
            clear H
            go_wp2
            go_meet
            case rel => exact ⟨_, (true), (by first | rfl | (simp; done) | (simp [*]; done)), H', ⟨by first | omega | exact Nat.le_refl _⟩, ⟨by (with_reducible repeat (first | refine blk_drewN ?_ _ | refine blk_drew ?_ | refine blk_alloc ?_ _)); exact BK230.out⟩, ⟨by (with_reducible repeat (first | refine blk_drewN ?_ _ | refine blk_drew ?_ | refine blk_alloc ?_ _)); exact BKB.out⟩, ⟨by repeat (first | (with_reducible first | exact HB.out | apply below_alloc | apply pw_below_drewN | apply below_drew1 | refine below_set ?_ GE230.out) | exact HB.out)⟩⟩
          · rw [if_neg c9] at H
            have c9b0 : decide (16 < a1) = false := decide_eq_false c9
            clear c9
            replace H := Option.bind_eq_some_iff.mp H
            obtain ⟨t231, A100, H⟩ := H
            replace H : (nand_New.j0 k a1 l2 a0 t231) = some (r1, r2, r3, r4, r5) := H
            have A10 := Aside0.mk A100
            clear A100
            have H' := Aside0.mk H
            clear H
            go_wp2_with (first | (go_at_call 45; (with_reducible refine (newOdd_calls _ _ l2 a0 t231 gbB _ hcB ?side1 ?side2 A10.out).mono ?_); (case side1 => repeat (first | exact (Kd.C_below HR2.out HB.out) | (with_reducible refine Kd.C_alloc ?_ _) | (with_reducible refine Kd.C_drewN ?_ _) | (with_reducible refine Kd.C_drew ?_))); (case side2 => exact HC2.out); rintro e w11 ⟨rfl, hb⟩; have nB_ := Aside0.mk (blk_below (g := gbB) (o := .cells #[.int .i64 a0] 3 (0, 0)) (by (with_reducible repeat (first | refine blk_drewN ?_ _ | refine blk_drew ?_ | refine blk_alloc ?_ _)); exact BKB.out) hb); clear BKB; have BKB := nB_; clear nB_; have n0_ := Aside0.mk (blk_below (g := gb230) (o := .cells #[.slice none 0 0, .bool false, .bool false, .int .i64 0] 28 (0, 0)) (by (with_reducible repeat (first | refine blk_drewN ?_ _ | refine blk_drew ?_ | refine blk_alloc ?_ _)); exact BK230.out) hb); have n1_ := Aside0.mk (below_step (by repeat (first | (with_reducible first | exact HB.out | apply below_alloc | apply pw_below_drewN | apply below_drew1 | refine below_set ?_ GE230.out) | exact HB.out)) hb); clear BK230; clear HB; have BK230 := n0_; have HB := n1_; clear n0_ n1_; (try clear hb); (try clear hb2); (try clear hk); (try clear hi)))
            go_meet
            case rel => exact ⟨_, (t231), (by first | rfl | (simp; done) | (simp [*]; done)), H', ⟨by first | omega | exact Nat.le_refl _⟩, ⟨by (with_reducible repeat (first | refine blk_drewN ?_ _ | refine blk_drew ?_ | refine blk_alloc ?_ _)); exact BK230.out⟩, ⟨by (with_reducible repeat (first | refine blk_drewN ?_ _ | refine blk_drew ?_ | refine blk_alloc ?_ _)); exact BKB.out⟩, ⟨by repeat (first | (with_reducible first | exact HB.out | apply below_alloc | apply pw_below_drewN | apply below_drew1 | refine below_set ?_ GE230.out) | exact HB.out)⟩⟩
  case rest =>
    clear HC4
    try clear c2
    try clear p2
    try clear c6
    try clear c6b0
    try clear c7
    try clear c7b0
    try clear c8
    try clear c8b0
    try clear c9
    try clear c9b0
    obtain ⟨kq, x32_3, rfl, HA, HJ3, BK230, BKB, HB⟩ := hcut
    cases kq with
    | zero => exact absurd HA.out (by simp [nand_New.j0])
    | succ kj3 =>
      have H := HA.out
      clear HA
      simp only [nand_New.j0] at H
      by_cases c12 : x32_3 = true
      · subst c12
        have H1 : (some (([] : List (S53)), false, false, 0, 1)) = some (r1, r2, r3, r4, r5) := by rw [if_pos rfl] at H; exact H
        clear H
        have H := H1
        clear H1
        simp only [Option.some.injEq, Prod.mk.injEq] at H
        obtain ⟨rfl, rfl, rfl, rfl, rfl⟩ := H
        have hcz13_0 : wc.cell? ⟨gb230, 0, none⟩ = some (.slice none 0 0) := (blk_cell BK230.out 0).trans rfl
        have hcz13_1 : wc.cell? ⟨gb230, 1, none⟩ = some (.bool false) := (blk_cell BK230.out 1).trans rfl
        have hcz13_2 : wc.cell? ⟨gb230, 2, none⟩ = some (.bool false) := (blk_cell BK230.out 2).trans rfl
        have hcz13_3 : wc.cell? ⟨gb230, 3, none⟩ = some (.int .i64 0) := (blk_cell BK230.out 3).trans rfl
        have hfz13_0 := blk_frozen BK230.out 0
        have hfz13_1 := blk_frozen BK230.out 1
        have hfz13_2 := blk_frozen BK230.out 2
        have hfz13_3 := blk_frozen BK230.out 3
        go_wp2
        refine bodyPost_ret (results_ct rfl _ _ gb230 28 #[.slice none 0 0, .bool false, .bool false, .int .i64 0] (0, 0) _ rfl (by (with_reducible repeat (first | refine blk_drewN ?_ _ | refine blk_drew ?_ | refine blk_alloc ?_ _)); refine blk_put (cs := #[.slice none 0 0, .bool false, .bool false, .int .i64 0]) ?_ 3 _ rfl; (with_reducible repeat (first | refine blk_drewN ?_ _ | refine blk_drew ?_ | refine blk_alloc ?_ _)); refine blk_put (cs := #[.slice none 0 0, .bool false, .bool false, .int .i64 0]) ?_ 2 _ rfl; (with_reducible repeat (first | refine blk_drewN ?_ _ | refine blk_drew ?_ | refine blk_alloc ?_ _)); refine blk_put (cs := #[.slice none 0 0, .bool false, .bool false, .int .i64 0]) ?_ 1 _ rfl; (with_reducible repeat (first | refine blk_drewN ?_ _ | refine blk_drew ?_ | refine blk_alloc ?_ _)); refine blk_put (cs := #[.slice none 0 0, .bool false, .bool false, .int .i64 0]) ?_ 0 _ rfl; (with_reducible repeat (first | refine blk_drewN ?_ _ | refine blk_drew ?_ | refine blk_alloc ?_ _)); exact BK230.out) Tryz.underlying28 rfl (by kernel_rfl)) rfl ?_
        exact ⟨_, by first | rfl | (simp [errW_none, errW_some] <;> rfl) | (simp [*, errW_none, errW_some] <;> rfl), by first | exact Kd.S_nil _ _ _ _ _ | exact Kd.N_nil _ _ _ _ _ | exact Kd.V_nil _ _ _ _ _ | exact Kd.Q_nil _ _ _ _ _ | exact Kd.R_nil _ _ _ _ _, by repeat (first | (with_reducible first | exact HB.out | apply below_alloc | apply pw_below_drewN | apply below_drew1 | refine below_set ?_ GE230.out) | exact HB.out)⟩
      · replace c12 := Bool.eq_false_iff.mpr c12
        subst c12
        have H1 : (if 0 ≤ a0 then (if (a0 : Int).toNat ≤ 5864062014805 then ((some (List.replicate (a0 : Int).toNat z53 : List (S53))).bind fun y232 => (nand_New.l0 kj3 a1 l2 (y232.length : Int) 0 y232 false false 0)) else (none)) else (none)) = some (r1, r2, r3, r4, r5) := by rw [if_neg (show ¬ (false = true) by decide)] at H; exact H
        clear H
        have H := H1
        clear H1
        by_cases c14 : 0 ≤ a0
        · rw [if_pos c14] at H
          have c14b0 := eq_true c14
          have c14b1 : decide (0 ≤ a0) = true := decide_eq_true c14
          clear c14
          by_cases c15 : (a0 : Int).toNat ≤ 5864062014805
          · rw [if_pos c15] at H
            have c15b0 := eq_true c15
            have c15b1 : decide ((a0 : Int).toNat ≤ 5864062014805) = true := decide_eq_true c15
            clear c15
            obtain ⟨y232, hy232⟩ : ∃ y_ : List (S53), y_ = (List.replicate (a0 : Int).toNat z53) := ⟨_, rfl⟩
            replace H : (nand_New.l0 kj3 a1 l2 (y232.length : Int) 0 y232 false false 0) = some (r1, r2, r3, r4, r5) := by first | (rw [hy232]; with_reducible exact H) | (have H2_ := (Option.bind_some _ _).symm.trans H; rw [hy232]; with_reducible exact H2_) | (have H2_ := (Option.bind_some _ _).symm.trans H; with_reducible exact H2_) | with_reducible exact H | (rw [hy232]; exact H) | exact H
            have Ny232 := Aside0.mk hy232
            clear hy232
            have H' := Aside0.mk H
            clear H
            have hcB : World.cell? _ ⟨gbB, 0, none⟩ = some (.int .i64 a0) := (blk_cell BKB.out 0).trans rfl
            go_wp2_with (first | ((with_reducible refine gate_dst (N := 35) rfl ?_); refine Kd.N_make k53 _ 53 rfl (N' := 35) rfl 26 _ _ rfl a0 rfl rfl Tryz.underlying26 (.agg #[(.slice none 0 0), (.int .i64 0), (.int .i64 0), (.bool false)]) 48 info53 rfl (by decide) (by omega) z53 (ok := fun k_ => wc.heap.size ≤ k_) (okp := fun _ => False) (k53_mkF _ _ z53 (Nat.le_refl _) (Kd.F_nil _ _ _)) (fun _ hk => hk.elim) (Nat.le_refl _) (of_decide_eq_true (by first | (with_reducible assumption) | assumption)) (Nat.le_trans (Nat.mul_le_mul_right _ (of_decide_eq_true (by first | (with_reducible assumption) | assumption) : a0.toNat ≤ 5864062014805)) (by omega)) (Below.refl _ _) (Nat.le_refl _) ?_; intro v233 w16 ho17 hb hg_ hnew_; clear hg_ hnew_; (first | rw [← Ny232.out] at ho17 | (simp only [Int.reduceToNat] at ho17; rw [← Ny232.out] at ho17)); have n0_ := Aside0.mk (Kd.N_lower (Kd.N_mono (ok' := fun k_ => (w.heap.size ≤ k_) ∧ k_ ≠ gb230) ho17 (fun k_ hk_ => ⟨(Nat.le_trans (below_size (by repeat (first | (with_reducible first | exact HB.out | apply below_alloc | apply pw_below_drewN | apply below_drew1 | refine below_set ?_ GE230.out) | exact HB.out))) hk_), (Kd.freshB (g := gb230) (o := .cells #[.slice none 0 0, .bool false, .bool false, .int .i64 0] 28 (0, 0)) (by (with_reducible repeat (first | refine blk_drewN ?_ _ | refine blk_drew ?_ | refine blk_alloc ?_ _)); exact BK230.out) k_ hk_)⟩)) (below_size (by repeat (first | (with_reducible first | exact HB.out | apply below_alloc | apply pw_below_drewN | apply below_drew1 | refine below_set ?_ GE230.out) | exact HB.out)))); have n1_ := Aside0.mk (blk_below (g := gb230) (o := .cells #[.slice none 0 0, .bool false, .bool false, .int .i64 0] 28 (0, 0)) (by (with_reducible repeat (first | refine blk_drewN ?_ _ | refine blk_drew ?_ | refine blk_alloc ?_ _)); exact BK230.out) hb); have n2_ := Aside0.mk (below_step (by repeat (first | (with_reducible first | exact HB.out | apply below_alloc | apply pw_below_drewN | apply below_drew1 | refine below_set ?_ GE230.out) | exact HB.out)) hb); clear BK230; clear HB; have HO234 := n0_; have BK230 := n1_; have HB := n2_; clear n0_ n1_ n2_; clear hb ho17; obtain ⟨Ao18, co18, eo18⟩ := Kd.N_slice HO234.out; subst eo18) | ((with_reducible refine gate_dst (N := 9) rfl ?_); refine box_event ?hg (N := 9) ?hd (cs := #[.slice none 0 0, .bool false, .bool false, .int .i64 0]) (t := 28) ?hr ?_; (case hd => rfl); (case hg => rfl); (case hr => first | (go_simp; done) | (go_simp; rfl)); intro gb235 hg w19 hbox hb; have n0_ := Aside0.mk (Kd.N_below (Kd.N_elderB (by (with_reducible repeat (first | apply Kd.N_alloc | apply Kd.N_drewN | apply Kd.N_drew)); exact HO234.out) gb235 (Nat.le_of_eq hg.symm)) hb); have n1_ := Aside0.mk (blk_below (g := gb230) (o := .cells #[.slice none 0 0, .bool false, .bool false, .int .i64 0] 28 (0, 0)) (by (with_reducible repeat (first | refine blk_drewN ?_ _ | refine blk_drew ?_ | refine blk_alloc ?_ _)); exact BK230.out) hb); have n2_ := Aside0.mk (below_step (by repeat (first | (with_reducible first | exact HB.out | apply below_alloc | apply pw_below_drewN | apply below_drew1 | refine below_set ?_ GE230.out) | exact HB.out)) hb); have n3_ := Aside0.mk (hbox); have n4_ := Aside0.mk ((by rw [hg]; exact (below_size (by repeat (first | (with_reducible first | exact HB.out | apply below_alloc | apply pw_below_drewN | apply below_drew1 | refine below_set ?_ GE230.out) | exact HB.out))) : w.heap.size ≤ gb235)); have n5_ := Aside0.mk ((by rw [hg]; exact (below_size (by repeat (first | (with_reducible first | exact HB.out | apply below_alloc | apply pw_below_drewN | apply below_drew1 | refine below_set ?_ GE230.out) | exact HB.out))) : w.heap.size ≤ gb235)); have n6_ := Aside0.mk ((by rw [hg]; exact Nat.ne_of_lt (blk_lt (g := gb230) (o := .cells #[.slice none 0 0, .bool false, .bool false, .int .i64 0] 28 (0, 0)) (by (with_reducible repeat (first | refine blk_drewN ?_ _ | refine blk_drew ?_ | refine blk_alloc ?_ _)); exact BK230.out)) : gb230 ≠ gb235)); have n7_ := Aside0.mk ((by rw [hg]; exact Nat.ne_of_gt (blk_lt (g := gb230) (o := .cells #[.slice none 0 0, .bool false, .bool false, .int .i64 0] 28 (0, 0)) (by (with_reducible repeat (first | refine blk_drewN ?_ _ | refine blk_drew ?_ | refine blk_alloc ?_ _)); exact BK230.out)) : gb235 ≠ gb230)); clear HO234; clear BK230; clear HB; have HO234 := n0_; have BK230 := n1_; have HB := n2_; have BK235 := n3_; have GW235 := n4_; have GE235 := n5_; have NB230_235 := n6_; have NB235_230 := n7_; clear n0_ n1_ n2_ n3_ n4_ n5_ n6_ n7_; clear hb hbox hg; have hnb20 := NB235_230.out; have hnc20 := NB230_235.out; have hcz21_0 : w19.cell? ⟨gb235, 0, none⟩ = some (.slice none 0 0) := (blk_cell BK235.out 0).trans rfl; have hcz21_1 : w19.cell? ⟨gb235, 1, none⟩ = some (.bool false) := (blk_cell BK235.out 1).trans rfl; have hcz21_2 : w19.cell? ⟨gb235, 2, none⟩ = some (.bool false) := (blk_cell BK235.out 2).trans rfl; have hcz21_3 : w19.cell? ⟨gb235, 3, none⟩ = some (.int .i64 0) := (blk_cell BK235.out 3).trans rfl; have hfz21_0 := blk_frozen BK235.out 0; have hfz21_1 := blk_frozen BK235.out 1; have hfz21_2 := blk_frozen BK235.out 2; have hfz21_3 := blk_frozen BK235.out 3))
            go_loopg [40] kj3 (fun kq v40 w' => ∃ (x40_2 : Int) (x236000_2 : List (S53)) (u236000 : Value), v40 = .int .i64 x40_2 ∧ Aside0 (nand_New.l0 kq a1 l2 (y232.length : Int) x40_2 x236000_2 false false 0 = some (r1, r2, r3, r4, r5)) ∧ Aside0 (kq ≤ kj3) ∧ Aside0 (Kd.N k53 53 w' w.heap.size (fun k_ => (w.heap.size ≤ k_) ∧ k_ ≠ gb230 ∧ k_ ≠ gb235) u236000 x236000_2) ∧ Aside0 (w'.heap[gb230]? = some (.cells #[(.slice none 0 0), .bool false, .bool false, .int .i64 0] 28 (0, 0))) ∧ Aside0 (w'.heap[gb235]? = some (.cells #[u236000, .bool false, .bool false, .int .i64 0] 28 (0, 0))) ∧ Aside0 (Below w.heap.size w w'))
            case atStart => exact ⟨(0), (y232), (.slice Ao18 y232.length co18), (by first | rfl | (simp; done) | (simp [*]; done)), H', ⟨Nat.le_refl _⟩, ⟨by (with_reducible repeat (first | apply Kd.N_alloc | apply Kd.N_drewN | apply Kd.N_drew)); exact Kd.N_mono (Kd.N_far (p := ⟨gb235, 3, none⟩) (Kd.N_far (p := ⟨gb235, 2, none⟩) (Kd.N_far (p := ⟨gb235, 1, none⟩) (Kd.N_far (p := ⟨gb235, 0, none⟩) (Kd.N_mono HO234.out (fun k_ hk => (⟨hk, hk.2⟩ : _ ∧ k_ ≠ gb235))) (fun _ hk => hk.2) (.slice Ao18 y232.length co18)) (fun _ hk => hk.2) (.bool false)) (fun _ hk => hk.2) (.bool false)) (fun _ hk => hk.2) (.int .i64 0)) (fun _ hk => ⟨hk.1.1.1, ⟨hk.1.1.2, hk.1.2⟩⟩)⟩, ⟨by (with_reducible repeat (first | refine blk_drewN ?_ _ | refine blk_drew ?_ | refine blk_alloc ?_ _)); refine blk_far ?_ NB230_235.out _; (with_reducible repeat (first | refine blk_drewN ?_ _ | refine blk_drew ?_ | refine blk_alloc ?_ _)); refine blk_far ?_ NB230_235.out _; (with_reducible repeat (first | refine blk_drewN ?_ _ | refine blk_drew ?_ | refine blk_alloc ?_ _)); refine blk_far ?_ NB230_235.out _; (with_reducible repeat (first | refine blk_drewN ?_ _ | refine blk_drew ?_ | refine blk_alloc ?_ _)); refine blk_far ?_ NB230_235.out _; (with_reducible repeat (first | refine blk_drewN ?_ _ | refine blk_drew ?_ | refine blk_alloc ?_ _)); exact BK230.out⟩, ⟨by (with_reducible repeat (first | refine blk_drewN ?_ _ | refine blk_drew ?_ | refine blk_alloc ?_ _)); refine blk_put (cs := #[.slice Ao18 y232.length co18, .bool false, .bool false, .int .i64 0]) ?_ 3 _ rfl; (with_reducible repeat (first | refine blk_drewN ?_ _ | refine blk_drew ?_ | refine blk_alloc ?_ _)); refine blk_put (cs := #[.slice Ao18 y232.length co18, .bool false, .bool false, .int .i64 0]) ?_ 2 _ rfl; (with_reducible repeat (first | refine blk_drewN ?_ _ | refine blk_drew ?_ | refine blk_alloc ?_ _)); refine blk_put (cs := #[.slice Ao18 y232.length co18, .bool false, .bool false, .int .i64 0]) ?_ 1 _ rfl; (with_reducible repeat (first | refine blk_drewN ?_ _ | refine blk_drew ?_ | refine blk_alloc ?_ _)); refine blk_put (cs := #[.slice none 0 0, .bool false, .bool false, .int .i64 0]) ?_ 0 _ rfl; (with_reducible repeat (first | refine blk_drewN ?_ _ | refine blk_drew ?_ | refine blk_alloc ?_ _)); exact BK235.out⟩, ⟨by repeat (first | (with_reducible first | exact HB.out | apply below_alloc | apply pw_below_drewN | apply below_drew1 | refine below_set ?_ GE230.out | refine below_set ?_ GE235.out) | exact HB.out)⟩⟩
            case round =>
              clear H'
              try clear c1
              try clear hcB
              try clear c2
              try clear p2
              try clear c6
              try clear c6b0
              try clear c7
              try clear c7b0
              try clear c8
              try clear c8b0
              try clear c9
              try clear c9b0
              try clear c12
              try clear c14
              try clear c14b0
              try clear c14b1
              try clear c15
              try clear c15b0
              try clear c15b1
              try clear c20
              try clear hcz13_0
              try clear hcz13_1
              try clear hcz13_2
              try clear hcz13_3
              try clear hcz21_0
              try clear hcz21_1
              try clear hcz21_2
              try clear hcz21_3
              try clear hfz13_0
              try clear hfz13_1
              try clear hfz13_2
              try clear hfz13_3
              try clear hfz21_0
              try clear hfz21_1
              try clear hfz21_2
              try clear hfz21_3
              try clear p2
              obtain ⟨x40_2, x236000_2, u236000, rfl, HA, HK2, HO_236000, BK230, BK235, HB⟩ := hrel
              cases gk with
              | zero => exact absurd HA.out (by simp [nand_New.l0])
              | succ k2 =>
                have H := HA.out
                clear HA
                simp only [nand_New.l0] at H
                by_cases c22 : x40_2 < (y232.length : Int)
                · rw [if_pos c22] at H
                  have c22b0 : decide (x40_2 < (y232.length : Int)) = true := decide_eq_true c22
                  clear c22
                  by_cases c23 : 0 ≤ a1
                  · rw [if_pos c23] at H
                    have c23b0 := eq_true c23
                    have c23b1 : decide (0 ≤ a1) = true := decide_eq_true c23
                    clear c23
                    by_cases c24 : (a1 : Int).toNat ≤ 7036874417766
                    · rw [if_pos c24] at H
                      have c24b0 := eq_true c24
                      have c24b1 : decide ((a1 : Int).toNat ≤ 7036874417766) = true := decide_eq_true c24
                      clear c24
                      obtain ⟨y236, hy236⟩ : ∃ y_ : List (S65), y_ = (List.replicate (a1 : Int).toNat z65) := ⟨_, rfl⟩
                      replace H : (if 0 ≤ x40_2 then (if x40_2 < (x236000_2.length : Int) then (nand_New.l0 k2 a1 l2 (y232.length : Int) (wrap64 (x40_2 + 1)) (x236000_2.set (x40_2 : Int).toNat (⟨y236, (rd_T53 x236000_2 x40_2).f1, (rd_T53 x236000_2 x40_2).f2, (rd_T53 x236000_2 x40_2).f3⟩ : S53)) false false 0) else (none)) else (none)) = some (r1, r2, r3, r4, r5) := by first | (rw [hy236]; with_reducible exact H) | (have H2_ := (Option.bind_some _ _).symm.trans H; rw [hy236]; with_reducible exact H2_) | (have H2_ := (Option.bind_some _ _).symm.trans H; with_reducible exact H2_) | with_reducible exact H | (rw [hy236]; exact H) | exact H
                      have Ny236 := Aside0.mk hy236
                      clear hy236
                      by_cases c25 : 0 ≤ x40_2
                      · rw [if_pos c25] at H
                        have c25b0 : decide (0 ≤ x40_2) = true := decide_eq_true c25
                        clear c25
                        by_cases c26 : x40_2 < (x236000_2.length : Int)
                        · rw [if_pos c26] at H
                          have c26b0 : decide (x40_2 < (x236000_2.length : Int)) = true := decide_eq_true c26
                          clear c26
                          obtain ⟨y239, hy239⟩ : ∃ y_ : List (S53), y_ = (x236000_2.set (x40_2 : Int).toNat (⟨y236, (rd_T53 x236000_2 x40_2).f1, (rd_T53 x236000_2 x40_2).f2, (rd_T53 x236000_2 x40_2).f3⟩ : S53)) := ⟨_, rfl⟩
                          replace H : (nand_New.l0 k2 a1 l2 (y232.length : Int) (wrap64 (x40_2 + 1)) y239 false false 0) = some (r1, r2, r3, r4, r5) := by first | (rw [hy239]; with_reducible exact H) | (have H2_ := (Option.bind_some _ _).symm.trans H; rw [hy239]; with_reducible exact H2_) | (have H2_ := (Option.bind_some _ _).symm.trans H; with_reducible exact H2_) | with_reducible exact H | (rw [hy239]; exact H) | exact H
                          have Ny239 := Aside0.mk hy239
                          clear hy239
                          have H' := Aside0.mk H
                          clear H
                          try go_wp2
                          have n0_ := Aside0.mk (Kd.N_drew HO_236000.out)
                          have n1_ := Aside0.mk (blk_drew BK230.out)
                          have n2_ := Aside0.mk (blk_drew BK235.out)
                          have n3_ := Aside0.mk (below_drew1 HB.out)
                          clear HO_236000
                          clear BK230
                          clear BK235
                          clear HB
                          have HO_236000 := n0_
                          have BK230 := n1_
                          have BK235 := n2_
                          have HB := n3_
                          clear n0_ n1_ n2_ n3_
                          refine start_ (n := 8) (S := fun w' => w'.cell? ⟨gb235, 0, none⟩ = some (u236000) ∧ w'.cell? ⟨gb235, 1, none⟩ = some (.bool false) ∧ w'.cell? ⟨gb235, 2, none⟩ = some (.bool false) ∧ w'.cell? ⟨gb235, 3, none⟩ = some (.int .i64 0)) (ds := [7]) #[false, false, false, false, false, false, false, false] (by kernel_rfl) rfl rfl ⟨(blk_cell BK235.out 0).trans rfl, (blk_cell BK235.out 1).trans rfl, (blk_cell BK235.out 2).trans rfl, (blk_cell BK235.out 3).trans rfl⟩ (fun hHeld => ?_); refine with_tabW nand_New.tab8 nand_New.bits8 (fun HT_ HW_ => ?_)
                          generalize wr.drew = w28 at HO_236000 BK230 BK235 HB hHeld ⊢
                          refine pure_ (i := 0) (N := some 43) (v := ?_) (a' := ?_) #[true, false, false, false, false, false, false, false] rfl rfl (any_of HT_.out (by kernel_rfl)) (fun _ _ _ h => h) (Or.inl ⟨by rfl, ?_⟩) ?_ ?_
                          rotate_left
                          · intro w'
                            go_simp
                            with_reducible rfl
                          rotate_left
                          · simp only [Act.put, List.setIfInBounds_toArray, List.set_cons_zero, List.set_cons_succ, i64_w, i32_w]
                            rfl
                          refine pure_ (i := 2) (N := some 45) (v := ?_) (a' := ?_) #[true, false, true, false, false, false, false, false] rfl rfl (any_of HT_.out (by kernel_rfl)) (fun _ _ _ h => h) (Or.inl ⟨by rfl, ?_⟩) ?_ ?_
                          rotate_left
                          · intro w'
                            go_simp
                            with_reducible rfl
                          rotate_left
                          · simp only [Act.put, List.setIfInBounds_toArray, List.set_cons_zero, List.set_cons_succ, i64_w, i32_w]
                            rfl
                          refine pure_ (i := 3) (N := some 46) (v := ?_) (a' := ?_) #[true, false, true, true, false, false, false, false] rfl rfl (any_of HT_.out (by kernel_rfl)) (fun _ _ _ h => h) (Or.inl ⟨by rfl, ?_⟩) ?_ ?_
                          rotate_left
                          · intro w'
                            go_simp
                            with_reducible rfl
                          rotate_left
                          · simp only [Act.put, List.setIfInBounds_toArray, List.set_cons_zero, List.set_cons_succ, i64_w, i32_w]
                            rfl
                          refine take_ (i := 1) (N := some 44) (v := ?_) (a' := ?_) #[true, true, true, true, false, false, false, false] rfl rfl (take_ofW HT_.out HW_.out (by kernel_rfl)) (fun _ _ _ h => h) (Or.inl ⟨by rfl, ?_⟩) hHeld ?_ ?_
                          rotate_left
                          · rintro w' ⟨s0, s1, s2, s3⟩
                            go_simp
                            with_reducible rfl
                          rotate_left
                          · simp only [Act.put, List.setIfInBounds_toArray, List.set_cons_zero, List.set_cons_succ, i64_w, i32_w]
                            rfl
                          refine one_ (i := 4) (N := some 47) #[true, true, true, true, true, false, false, false] rfl rfl (one_of HT_.out (by kernel_rfl)) (by decide) (fun K hK => ?_)
                          refine Kd.R_make_step k65 _ 65 (by rfl) (N := 47) rfl 51 _ _ rfl a1 rfl rfl Tryz.underlying51 (.agg #[(.bool false), (.string ⟨#[]⟩), (.string ⟨#[]⟩)]) 40 info65 rfl (by decide) (by omega) z65 (ok := fun _ => True) (okp := fun _ => True) (k65_mkM _ _ _ z65 ) (fun _ hk => hk) trivial (of_decide_eq_true (by first | (with_reducible assumption) | assumption)) (Nat.le_trans (Nat.mul_le_mul_right _ (of_decide_eq_true (by first | (with_reducible assumption) | assumption) : a1.toNat ≤ 7036874417766)) (by omega)) (Below.refl _ _) (Nat.le_refl _) ?_
                          intro v237 w29 ho30 hb hg_ hnew_
                          clear hg_ hnew_
                          (first | rw [← Ny236.out] at ho30 | (simp only [Int.reduceToNat] at ho30; rw [← Ny236.out] at ho30))
                          have n0_ := Aside0.mk (Kd.N_elder' (by (with_reducible repeat (first | apply Kd.N_alloc | apply Kd.N_drewN | apply Kd.N_drew)); exact HO_236000.out) (Kd.R_base ho30) hb)
                          have n1_ := Aside0.mk (Kd.R_lower (Kd.R_newM (M := fun k_ => (w.heap.size ≤ k_)) ho30 (below_size (by repeat (first | (with_reducible first | exact HB.out | apply below_alloc | apply pw_below_drewN | apply below_drew1 | refine below_set ?_ GE230.out | refine below_set ?_ GE235.out) | exact HB.out))) (fun k_ h_ => h_)) (below_size (by repeat (first | (with_reducible first | exact HB.out | apply below_alloc | apply pw_below_drewN | apply below_drew1 | refine below_set ?_ GE230.out | refine below_set ?_ GE235.out) | exact HB.out))))
                          have n2_ := Aside0.mk (blk_below (g := gb230) (o := .cells #[.slice none 0 0, .bool false, .bool false, .int .i64 0] 28 (0, 0)) (by (with_reducible repeat (first | refine blk_drewN ?_ _ | refine blk_drew ?_ | refine blk_alloc ?_ _)); exact BK230.out) hb)
                          have n3_ := Aside0.mk (blk_below (g := gb235) (o := .cells #[u236000, .bool false, .bool false, .int .i64 0] 28 (0, 0)) (by (with_reducible repeat (first | refine blk_drewN ?_ _ | refine blk_drew ?_ | refine blk_alloc ?_ _)); exact BK235.out) hb)
                          have n4_ := Aside0.mk (below_step (by repeat (first | (with_reducible first | exact HB.out | apply below_alloc | apply pw_below_drewN | apply below_drew1 | refine below_set ?_ GE230.out | refine below_set ?_ GE235.out) | exact HB.out)) hb)
                          clear HO_236000
                          clear BK230
                          clear BK235
                          clear HB
                          have HO_236000 := n0_
                          have HO238 := n1_
                          have BK230 := n2_
                          have BK235 := n3_
                          have HB := n4_
                          clear n0_ n1_ n2_ n3_ n4_
                          clear hb ho30
                          obtain ⟨Aq, cq, eq_⟩ := Kd.R_slice HO238.out
                          subst eq_
                          have p27 : 0 ≤ (x40_2 : Int) := of_decide_eq_true (by first | (with_reducible assumption) | assumption)
                          have q27 : (x40_2 : Int) < ((x236000_2.length : Int) : Int) := of_decide_eq_true (by first | (with_reducible assumption) | assumption)
                          obtain ⟨go27, co27, eo27, gb27, gl27, cl27, HG27⟩ := Kd.N_form HO_236000.out (by omega)
                          (first | cases eo27 | (injection eo27 with ea_ en_ ec_; (first | subst ea_ | (injection ea_ with ea_; subst ea_)); subst ec_; clear en_))
                          have GB27 := Aside0.mk gb27
                          have GG27 := Aside0.mk HG27
                          clear gb27 gl27 HG27
                          obtain ⟨ce27, hcl27, hM27, hcc27, hfr27⟩ := Kd.N_elem HO_236000.out z53 (x40_2 : Int) p27 q27
                          obtain ⟨ua27_0, uc27_0, rfl, ul27_0, ge27_0⟩ := k53_openF hM27
                          have hx27_0 : World.cell? _ ⟨go27, (x40_2 : Int).toNat * 4, none⟩ = some (.slice ua27_0 ((rd_T53 x236000_2 x40_2).f0).length uc27_0) := hcc27 0 _ rfl
                          have hx27_1 : World.cell? _ ⟨go27, (x40_2 : Int).toNat * 4 + 1, none⟩ = some (.int .i64 ((rd_T53 x236000_2 x40_2).f1)) := hcc27 1 _ rfl
                          have hx27_2 : World.cell? _ ⟨go27, (x40_2 : Int).toNat * 4 + 2, none⟩ = some (.int .i64 ((rd_T53 x236000_2 x40_2).f2)) := hcc27 2 _ rfl
                          have hx27_3 : World.cell? _ ⟨go27, (x40_2 : Int).toNat * 4 + 3, none⟩ = some (.bool ((rd_T53 x236000_2 x40_2).f3)) := hcc27 3 _ rfl
                          have hf27_0 : World.frozen? _ ⟨go27, (x40_2 : Int).toNat * 4, none⟩ = false := hfr27 0
                          have hf27_1 : World.frozen? _ ⟨go27, (x40_2 : Int).toNat * 4 + 1, none⟩ = false := hfr27 1
                          have hf27_2 : World.frozen? _ ⟨go27, (x40_2 : Int).toNat * 4 + 2, none⟩ = false := hfr27 2
                          have hf27_3 : World.frozen? _ ⟨go27, (x40_2 : Int).toNat * 4 + 3, none⟩ = false := hfr27 3
                          clear hcl27 hcc27 hfr27 hM27
                          replace p27 := eq_true p27
                          replace q27 := eq_true q27
                          have HX31 := Aside0.mk (show Kd.N k53 53 _ w.heap.size (fun k_ => (w.heap.size ≤ k_) ∧ some k_ ≠ ((Value.slice Aq y236.length cq) : Value).ownBlock ∧ k_ ≠ gb230 ∧ k_ ≠ gb235) (.slice (some ⟨go27, 0, none⟩) x236000_2.length co27) x236000_2 from (Kd.N_mono (HO_236000.out) (fun k_ hk => ⟨hk.1.1, ⟨hk.2, ⟨hk.1.2.1, hk.1.2.2⟩⟩⟩)))
                          replace HX31 := Aside0.mk (show Kd.N k53 53 _ w.heap.size (fun k_ => (w.heap.size ≤ k_) ∧ k_ ≠ gb230 ∧ k_ ≠ gb235) (.slice (some ⟨go27, 0, none⟩) x236000_2.length co27) x236000_2 from Kd.N_mono HX31.out (fun k_ hk => ⟨hk.1, ⟨hk.2.2.1, hk.2.2.2⟩⟩))
                          obtain ⟨ce31, hcl31, hM31, hcc31, hfr31⟩ := Kd.N_elem HX31.out z53 (x40_2 : Int) (of_decide_eq_true (by first | (with_reducible assumption) | assumption)) (by have h_ : (x40_2 : Int) < ((x236000_2.length : Int) : Int) := of_decide_eq_true (by first | (with_reducible assumption) | assumption); first | exact h_ | (have e_ := (Kd.N_reads' HO_236000.out).1; omega) | simpa using h_)
                          obtain ⟨ua31_0, uc31_0, rfl, ul31_0, ge31_0⟩ := k53_openF hM31
                          have HP31 := (Kd.N_seg HX31.out (x40_2 : Int) (of_decide_eq_true (by first | (with_reducible assumption) | assumption)) (by have h_ : (x40_2 : Int) < ((x236000_2.length : Int) : Int) := of_decide_eq_true (by first | (with_reducible assumption) | assumption); first | exact h_ | (have e_ := (Kd.N_reads' HO_236000.out).1; omega) | simpa using h_) (seg := [(Value.slice Aq y236.length cq)]) (j := 0) hcl31 hcc31 (show 1 ≤ 4 from by decide) (x' := (⟨y236, (rd_T53 x236000_2 x40_2).f1, (rd_T53 x236000_2 x40_2).f2, (rd_T53 x236000_2 x40_2).f3⟩ : S53)) (k53_mkF _ _ (⟨y236, (rd_T53 x236000_2 x40_2).f1, (rd_T53 x236000_2 x40_2).f2, (rd_T53 x236000_2 x40_2).f3⟩ : S53) (Kd.R_reads' (Kd.R_mono (ok' := (fun k_ => ((fun k_ => (w.heap.size ≤ k_) ∧ k_ ≠ gb230 ∧ k_ ≠ gb235)) k_ ∧ k_ ≠ go27)) (Kd.R_types (Kd.R_types (Kd.R_apart' (HO238.out) (Kd.N_typed HO_236000.out) (by decide)) BK230.out (by decide)) BK235.out (by decide)) (fun k_ hk => ⟨⟨hk.1.1.1.1, ⟨hk.1.2, hk.2⟩⟩, fun e_ => (hk.1.1.2) (by rw [e_]; rfl)⟩))).2.1 (Kd.R_F (Kd.R_mono (ok' := (fun k_ => ((fun k_ => (w.heap.size ≤ k_) ∧ k_ ≠ gb230 ∧ k_ ≠ gb235)) k_ ∧ k_ ≠ go27)) (Kd.R_types (Kd.R_types (Kd.R_apart' (HO238.out) (Kd.N_typed HO_236000.out) (by decide)) BK230.out (by decide)) BK235.out (by decide)) (fun k_ hk => ⟨⟨hk.1.1.1.1, ⟨hk.1.2, hk.2⟩⟩, fun e_ => (hk.1.1.2) (by rw [e_]; rfl)⟩)))) (fun _ hk => hk)).1
                          rw [← Ny239.out] at HP31
                          have HQ31 := Aside0.mk HP31
                          clear hcl31 hcc31 hfr31 hM31 HP31
                          refine hK.out _ _ ⟨(blk_cell BK235.out 0).trans rfl, (blk_cell BK235.out 1).trans rfl, (blk_cell BK235.out 2).trans rfl, (blk_cell BK235.out 3).trans rfl⟩ (fun hHeld => ?_)
                          clear hK K
                          refine norm_ (a' := ?_) ?_ ?_
                          rotate_left
                          · show Act.put _ (some 47) _ = _
                            simp only [Act.put, List.setIfInBounds_toArray, List.set_cons_zero, List.set_cons_succ, i64_w, i32_w]
                            rfl
                          refine pure_ (i := 5) (N := some 48) (v := ?_) (a' := ?_) #[true, true, true, true, true, true, false, false] rfl rfl (any_of HT_.out (by kernel_rfl)) (fun _ _ _ h => h) (Or.inl ⟨by rfl, ?_⟩) ?_ ?_
                          rotate_left
                          · intro w'
                            go_simp
                            with_reducible rfl
                          rotate_left
                          · simp only [Act.put, List.setIfInBounds_toArray, List.set_cons_zero, List.set_cons_succ, i64_w, i32_w]
                            rfl
                          refine pure_ (i := 6) (N := some 49) (v := ?_) (a' := ?_) #[true, true, true, true, true, true, true, false] rfl rfl (any_of HT_.out (by kernel_rfl)) (fun _ _ _ h => h) (Or.inl ⟨by rfl, ?_⟩) ?_ ?_
                          rotate_left
                          · intro w'
                            go_simp
                            with_reducible rfl
                          rotate_left
                          · simp only [Act.put, List.setIfInBounds_toArray, List.set_cons_zero, List.set_cons_succ, i64_w, i32_w]
                            rfl
                          refine last_ (i := 7) (N := none) #[true, true, true, true, true, true, true, true] rfl rfl (one_of HT_.out (by kernel_rfl)) (by decide) (fun K hK => ?_)
                          refine skip_ (w1 := ?_) (by rfl) rfl ?_ ?_
                          rotate_left
                          · go_simp
                            rfl
                          refine hK.out _ _ ?_
                          clear hK K
                          refine done_ (done_of HT_.out (by kernel_rfl)) ?_
                          try go_wp2
                          go_roundg k2
                          case measure => have := HJ3.out; have := HK2.out; omega
                          case rel => exact ⟨(wrap64 (x40_2 + 1)), (y239), (.slice (some ⟨go27, 0, none⟩) x236000_2.length co27), (by first | rfl | (simp; done) | (simp [*]; done)), H', ⟨by have := HJ3.out; have := HK2.out; omega⟩, ⟨by (with_reducible repeat (first | apply Kd.N_alloc | apply Kd.N_drewN | apply Kd.N_drew)); exact HQ31.out⟩, ⟨by (with_reducible repeat (first | refine blk_drewN ?_ _ | refine blk_drew ?_ | refine blk_alloc ?_ _)); refine blk_far ?_ (by have h_ := Kd.N_away HO_236000.out (fun _ hk => by first | exact hk.2.1 | exact hk.1.2.1); intro e_; exact h_ (by rw [e_]; rfl)) _; (with_reducible repeat (first | refine blk_drewN ?_ _ | refine blk_drew ?_ | refine blk_alloc ?_ _)); exact BK230.out⟩, ⟨by (with_reducible repeat (first | refine blk_drewN ?_ _ | refine blk_drew ?_ | refine blk_alloc ?_ _)); refine blk_far ?_ (by have h_ := Kd.N_away HO_236000.out (fun _ hk => by first | exact hk.2.2 | exact hk.1.2.2); intro e_; exact h_ (by rw [e_]; rfl)) _; (with_reducible repeat (first | refine blk_drewN ?_ _ | refine blk_drew ?_ | refine blk_alloc ?_ _)); exact BK235.out⟩, ⟨by repeat (first | (with_reducible first | exact HB.out | apply below_alloc | apply pw_below_drewN | apply below_drew1 | refine below_set ?_ GB27.out | refine below_set ?_ GE230.out | refine below_set ?_ GE235.out) | exact HB.out)⟩⟩
                        · rw [if_neg c26] at H
                          exact absurd H (by simp)
                      · rw [if_neg c25] at H
                        exact absurd H (by simp)
                    · rw [if_neg c24] at H
                      exact absurd H (by simp)
                  · rw [if_neg c23] at H
                    exact absurd H (by simp)
                · rw [if_neg c22] at H
                  have c22b0 : decide (x40_2 < (y232.length : Int)) = false := decide_eq_false c22
                  clear c22
                  have H' := Aside0.mk H
                  clear H
                  go_wp2
                  go_loopg [53] k2 (fun kq v53 w' => ∃ (x53_3 : Int) (x236000_3 : List (S53)) (u236000 : Value), v53 = .int .i64 x53_3 ∧ Aside0 (nand_New.l1 kq l2 (l2.length : Int) x53_3 x236000_3 false false 0 = some (r1, r2, r3, r4, r5)) ∧ Aside0 (kq ≤ k2) ∧ Aside0 (Kd.N k53 53 w' w.heap.size (fun k_ => (w.heap.size ≤ k_) ∧ k_ ≠ gb230 ∧ k_ ≠ gb235) u236000 x236000_3) ∧ Aside0 (w'.heap[gb230]? = some (.cells #[(.slice none 0 0), .bool false, .bool false, .int .i64 0] 28 (0, 0))) ∧ Aside0 (w'.heap[gb235]? = some (.cells #[u236000, .bool false, .bool false, .int .i64 0] 28 (0, 0))) ∧ Aside0 (Below w.heap.size w w'))
                  case atStart => exact ⟨(0), (x236000_2), (u236000), (by first | rfl | (simp; done) | (simp [*]; done)), H', ⟨Nat.le_refl _⟩, ⟨by (with_reducible repeat (first | apply Kd.N_alloc | apply Kd.N_drewN | apply Kd.N_drew)); exact HO_236000.out⟩, ⟨by (with_reducible repeat (first | refine blk_drewN ?_ _ | refine blk_drew ?_ | refine blk_alloc ?_ _)); exact BK230.out⟩, ⟨by (with_reducible repeat (first | refine blk_drewN ?_ _ | refine blk_drew ?_ | refine blk_alloc ?_ _)); exact BK235.out⟩, ⟨by repeat (first | (with_reducible first | exact HB.out | apply below_alloc | apply pw_below_drewN | apply below_drew1 | refine below_set ?_ GE230.out | refine below_set ?_ GE235.out) | exact HB.out)⟩⟩
                  case round =>
                    clear H'
                    try clear c1
                    try clear c2
                    try clear p2
                    try clear q2
                    try clear hx2
                    try clear c3
                    try clear c6
                    try clear c6b0
                    try clear p6
                    try clear c7
                    try clear c7b0
                    try clear c8
                    try clear c8b0
                    try clear c9
                    try clear c9b0
                    try clear c12
                    try clear c14
                    try clear c14b0
                    try clear c14b1
                    try clear c15
                    try clear c15b0
                    try clear c15b1
                    try clear c20
                    try clear c22
                    try clear c22b0
                    try clear c23
                    try clear c23b0
                    try clear c23b1
                    try clear c24
                    try clear c24b0
                    try clear c24b1
                    try clear c25
                    try clear c25b0
                    try clear c26
                    try clear c26b0
                    try clear c27
                    try clear p27
                    try clear q27
                    try clear hx27
                    try clear hf27
                    try clear c31
                    try clear hcz13_0
                    try clear hcz13_1
                    try clear hcz13_2
                    try clear hcz13_3
                    try clear hcz21_0
                    try clear hcz21_1
                    try clear hcz21_2
                    try clear hcz21_3
                    try clear hfz13_0
                    try clear hfz13_1
                    try clear hfz13_2
                    try clear hfz13_3
                    try clear hfz21_0
                    try clear hfz21_1
                    try clear hfz21_2
                    try clear hfz21_3
                    try clear hx27_0
                    try clear hx27_1
                    try clear hx27_2
                    try clear hx27_3
                    try clear p2
                    try clear p27
                    try clear q27
                    obtain ⟨x53_3, x236000_3, u236000, rfl, HA, HK3, HO_236000, BK230, BK235, HB⟩ := hrel
                    cases gk with
                    | zero => exact absurd HA.out (by simp [nand_New.l1])
                    | succ k3 =>
                      have H := HA.out
                      clear HA
                      simp only [nand_New.l1] at H
                      by_cases c32 : x53_3 < (l2.length : Int)
                      · rw [if_pos c32] at H
                        have c32b0 : decide (x53_3 < (l2.length : Int)) = true := decide_eq_true c32
                        clear c32
                        by_cases c33 : 0 ≤ x53_3
                        · rw [if_pos c33] at H
                          have c33b0 : decide (0 ≤ x53_3) = true := decide_eq_true c33
                          clear c33
                          by_cases c34 : x53_3 < (l2.length : Int)
                          · rw [if_pos c34] at H
                            have c34b0 : decide (x53_3 < (l2.length : Int)) = true := decide_eq_true c34
                            clear c34
                            by_cases c35 : 0 ≤ (rd l2 x53_3)
                            · rw [if_pos c35] at H
                              have c35b0 : decide (0 ≤ (rd l2 x53_3)) = true := decide_eq_true c35
                              clear c35
                              by_cases c36 : (rd l2 x53_3) < (x236000_3.length : Int)
                              · rw [if_pos c36] at H
                                have c36b0 : decide ((rd l2 x53_3) < (x236000_3.length : Int)) = true := decide_eq_true c36
                                clear c36
                                obtain ⟨y241, hy241⟩ : ∃ y_ : List (S53), y_ = (x236000_3.set ((rd l2 x53_3) : Int).toNat (⟨(rd_T53 x236000_3 (rd l2 x53_3)).f0, (rd_T53 x236000_3 (rd l2 x53_3)).f1, (rd_T53 x236000_3 (rd l2 x53_3)).f2, true⟩ : S53)) := ⟨_, rfl⟩
                                replace H : (nand_New.l1 k3 l2 (l2.length : Int) (wrap64 (x53_3 + 1)) y241 false false 0) = some (r1, r2, r3, r4, r5) := by first | (rw [hy241]; with_reducible exact H) | (have H2_ := (Option.bind_some _ _).symm.trans H; rw [hy241]; with_reducible exact H2_) | (have H2_ := (Option.bind_some _ _).symm.trans H; with_reducible exact H2_) | with_reducible exact H | (rw [hy241]; exact H) | exact H
                                have Ny241 := Aside0.mk hy241
                                clear hy241
                                have H' := Aside0.mk H
                                clear H
                                have p240 : 0 ≤ (x53_3 : Int) := of_decide_eq_true (by first | (with_reducible assumption) | assumption)
                                have q240 : x53_3 < (l2.length : Int) := of_decide_eq_true (by first | (with_reducible assumption) | assumption)
                                obtain ⟨ad240, e240, hx240_0⟩ := Kd.at_int HR2.out x53_3 p240 q240
                                cases e240
                                replace hx240_0 := (HB.out.cell (World.block_lt_of_cell? w _ hx240_0)).trans hx240_0
                                replace p240 := eq_true p240
                                replace q240 := eq_true q240
                                have hnb38 := NB235_230.out
                                have hnc38 := NB230_235.out
                                have hcz39_0 : wr.cell? ⟨gb235, 0, none⟩ = some (u236000) := (blk_cell BK235.out 0).trans rfl
                                have hcz39_1 : wr.cell? ⟨gb235, 1, none⟩ = some (.bool false) := (blk_cell BK235.out 1).trans rfl
                                have hcz39_2 : wr.cell? ⟨gb235, 2, none⟩ = some (.bool false) := (blk_cell BK235.out 2).trans rfl
                                have hcz39_3 : wr.cell? ⟨gb235, 3, none⟩ = some (.int .i64 0) := (blk_cell BK235.out 3).trans rfl
                                have hfz39_0 := blk_frozen BK235.out 0
                                have hfz39_1 := blk_frozen BK235.out 1
                                have hfz39_2 := blk_frozen BK235.out 2
                                have hfz39_3 := blk_frozen BK235.out 3
                                have p37 : 0 ≤ ((rd l2 x53_3) : Int) := of_decide_eq_true (by first | (with_reducible assumption) | assumption)
                                have q37 : ((rd l2 x53_3) : Int) < ((x236000_3.length : Int) : Int) := of_decide_eq_true (by first | (with_reducible assumption) | assumption)
                                obtain ⟨go37, co37, eo37, gb37, gl37, cl37, HG37⟩ := Kd.N_form HO_236000.out (by omega)
                                (first | cases eo37 | (injection eo37 with ea_ en_ ec_; (first | subst ea_ | (injection ea_ with ea_; subst ea_)); subst ec_; clear en_))
                                have GB37 := Aside0.mk gb37
                                have GG37 := Aside0.mk HG37
                                clear gb37 gl37 HG37
                                obtain ⟨ce37, hcl37, hM37, hcc37, hfr37⟩ := Kd.N_elem HO_236000.out z53 ((rd l2 x53_3) : Int) p37 q37
                                obtain ⟨ua37_0, uc37_0, rfl, ul37_0, ge37_0⟩ := k53_openF hM37
                                have hx37_0 : wr.cell? ⟨go37, ((rd l2 x53_3) : Int).toNat * 4, none⟩ = some (.slice ua37_0 ((rd_T53 x236000_3 (rd l2 x53_3)).f0).length uc37_0) := hcc37 0 _ rfl
                                have hx37_1 : wr.cell? ⟨go37, ((rd l2 x53_3) : Int).toNat * 4 + 1, none⟩ = some (.int .i64 ((rd_T53 x236000_3 (rd l2 x53_3)).f1)) := hcc37 1 _ rfl
                                have hx37_2 : wr.cell? ⟨go37, ((rd l2 x53_3) : Int).toNat * 4 + 2, none⟩ = some (.int .i64 ((rd_T53 x236000_3 (rd l2 x53_3)).f2)) := hcc37 2 _ rfl
                                have hx37_3 : wr.cell? ⟨go37, ((rd l2 x53_3) : Int).toNat * 4 + 3, none⟩ = some (.bool ((rd_T53 x236000_3 (rd l2 x53_3)).f3)) := hcc37 3 _ rfl
                                have hf37_0 : wr.frozen? ⟨go37, ((rd l2 x53_3) : Int).toNat * 4, none⟩ = false := hfr37 0
                                have hf37_1 : wr.frozen? ⟨go37, ((rd l2 x53_3) : Int).toNat * 4 + 1, none⟩ = false := hfr37 1
                                have hf37_2 : wr.frozen? ⟨go37, ((rd l2 x53_3) : Int).toNat * 4 + 2, none⟩ = false := hfr37 2
                                have hf37_3 : wr.frozen? ⟨go37, ((rd l2 x53_3) : Int).toNat * 4 + 3, none⟩ = false := hfr37 3
                                clear hcl37 hcc37 hfr37 hM37
                                replace p37 := eq_true p37
                                replace q37 := eq_true q37
                                have HX40 := Aside0.mk (show Kd.N k53 53 wr w.heap.size (fun k_ => (w.heap.size ≤ k_) ∧ k_ ≠ gb230 ∧ k_ ≠ gb235) (.slice (some ⟨go37, 0, none⟩) x236000_3.length co37) x236000_3 from (by (with_reducible repeat (first | apply Kd.N_alloc | apply Kd.N_drewN | apply Kd.N_drew)); exact HO_236000.out))
                                obtain ⟨ce40, hcl40, hM40, hcc40, hfr40⟩ := Kd.N_elem HX40.out z53 ((rd l2 x53_3) : Int) (of_decide_eq_true (by first | (with_reducible assumption) | assumption)) (by have h_ : ((rd l2 x53_3) : Int) < ((x236000_3.length : Int) : Int) := of_decide_eq_true (by first | (with_reducible assumption) | assumption); first | exact h_ | (have e_ := (Kd.N_reads' HO_236000.out).1; omega) | simpa using h_)
                                obtain ⟨ua40_0, uc40_0, rfl, ul40_0, ge40_0⟩ := k53_openF hM40
                                have HP40 := Kd.N_seg HX40.out ((rd l2 x53_3) : Int) (of_decide_eq_true (by first | (with_reducible assumption) | assumption)) (by have h_ : ((rd l2 x53_3) : Int) < ((x236000_3.length : Int) : Int) := of_decide_eq_true (by first | (with_reducible assumption) | assumption); first | exact h_ | (have e_ := (Kd.N_reads' HO_236000.out).1; omega) | simpa using h_) (seg := [.bool true]) (j := 3) hcl40 hcc40 (show 4 ≤ 4 from by decide) (x' := (⟨(rd_T53 x236000_3 (rd l2 x53_3)).f0, (rd_T53 x236000_3 (rd l2 x53_3)).f1, (rd_T53 x236000_3 (rd l2 x53_3)).f2, true⟩ : S53)) (k53_mkF _ _ (⟨(rd_T53 x236000_3 (rd l2 x53_3)).f0, (rd_T53 x236000_3 (rd l2 x53_3)).f1, (rd_T53 x236000_3 (rd l2 x53_3)).f2, true⟩ : S53) ul40_0 ge40_0) (fun _ hk => hk)
                                have hx40_3 := hcc40 3 _ rfl
                                (try simp only [show (k53).sz = 4 from rfl, Nat.mul_one, Nat.add_zero] at hx40_3)
                                have hf40_3 := hfr40 3
                                (try simp only [show (k53).sz = 4 from rfl, Nat.mul_one, Nat.add_zero] at hf40_3)
                                clear hcl40 hcc40 hfr40 hM40
                                go_wp2_with (first | ((with_reducible refine gate_store (t := 4) (p := 61) rfl ?_); refine store_event (t := 4) (p := 61) (v := ?vo_w41) (w1 := (wr.setCell ⟨go37, ((rd l2 x53_3) : Int).toNat * 4 + 3, none⟩ (.bool true))) ?hg ?ho ?hn ?hr ?_; (case ho => rfl); (case hg => rfl); (case hn => rfl); (case hr => first | (go_simp; done) | (go_simp; rfl)); intro w41 hw; have hg : wr.grownBy w41 (some go37) := (by rw [hw]; exact HP40.2); have hp_ : Kd.N k53 53 w41 w.heap.size (fun k_ => (w.heap.size ≤ k_) ∧ k_ ≠ gb230 ∧ k_ ≠ gb235) (.slice (some ⟨go37, 0, none⟩) x236000_3.length co37) y241 := (by rw [hw, Ny241.out]; exact HP40.1); clear HP40; have n0_ := Aside0.mk (hp_); have n1_ := Aside0.mk (blk_grown (g := gb230) (o := .cells #[.slice none 0 0, .bool false, .bool false, .int .i64 0] 28 (0, 0)) (by (with_reducible repeat (first | refine blk_drewN ?_ _ | refine blk_drew ?_ | refine blk_alloc ?_ _)); exact BK230.out) hg (Kd.N_ne HO_236000.out BK230.out (by decide))); have n2_ := Aside0.mk (blk_grown (g := gb235) (o := .cells #[.slice (some ⟨go37, 0, none⟩) x236000_3.length co37, .bool false, .bool false, .int .i64 0] 28 (0, 0)) (by (with_reducible repeat (first | refine blk_drewN ?_ _ | refine blk_drew ?_ | refine blk_alloc ?_ _)); exact BK235.out) hg (Kd.N_ne HO_236000.out BK235.out (by decide))); have n3_ := Aside0.mk ((by rw [hw]; exact below_set (HB.out) GB37.out : Below w.heap.size w w41)); clear HO_236000; clear BK230; clear BK235; clear HB; have HO_236000 := n0_; have BK230 := n1_; have BK235 := n2_; have HB := n3_; clear n0_ n1_ n2_ n3_; clear hg hw hp_))
                                go_roundg k3
                                case measure => have := HJ3.out; have := HK2.out; have := HK3.out; omega
                                case rel => exact ⟨(wrap64 (x53_3 + 1)), (y241), (.slice (some ⟨go37, 0, none⟩) x236000_3.length co37), (by first | rfl | (simp; done) | (simp [*]; done)), H', ⟨by have := HJ3.out; have := HK2.out; have := HK3.out; omega⟩, ⟨by (with_reducible repeat (first | apply Kd.N_alloc | apply Kd.N_drewN | apply Kd.N_drew)); exact HO_236000.out⟩, ⟨by (with_reducible repeat (first | refine blk_drewN ?_ _ | refine blk_drew ?_ | refine blk_alloc ?_ _)); exact BK230.out⟩, ⟨by (with_reducible repeat (first | refine blk_drewN ?_ _ | refine blk_drew ?_ | refine blk_alloc ?_ _)); exact BK235.out⟩, ⟨by repeat (first | (with_reducible first | exact HB.out | apply below_alloc | apply pw_below_drewN | apply below_drew1 | refine below_set ?_ GE230.out | refine below_set ?_ GE235.out) | exact HB.out)⟩⟩
                              · rw [if_neg c36] at H
                                exact absurd H (by simp)
                            · rw [if_neg c35] at H
                              exact absurd H (by simp)
                          · rw [if_neg c34] at H
                            exact absurd H (by simp)
                        · rw [if_neg c33] at H
                          exact absurd H (by simp)
                      · rw [if_neg c32] at H
                        have c32b0 : decide (x53_3 < (l2.length : Int)) = false := decide_eq_false c32
                        clear c32
                        simp only [Option.some.injEq, Prod.mk.injEq] at H
                        obtain ⟨rfl, rfl, rfl, rfl, rfl⟩ := H
                        have hnb42 := NB235_230.out
                        have hnc42 := NB230_235.out
                        have hcz43_0 : wr.cell? ⟨gb235, 0, none⟩ = some (u236000) := (blk_cell BK235.out 0).trans rfl
                        have hcz43_1 : wr.cell? ⟨gb235, 1, none⟩ = some (.bool false) := (blk_cell BK235.out 1).trans rfl
                        have hcz43_2 : wr.cell? ⟨gb235, 2, none⟩ = some (.bool false) := (blk_cell BK235.out 2).trans rfl
                        have hcz43_3 : wr.cell? ⟨gb235, 3, none⟩ = some (.int .i64 0) := (blk_cell BK235.out 3).trans rfl
                        have hfz43_0 := blk_frozen BK235.out 0
                        have hfz43_1 := blk_frozen BK235.out 1
                        have hfz43_2 := blk_frozen BK235.out 2
                        have hfz43_3 := blk_frozen BK235.out 3
                        obtain ⟨Ao44, co44, eo44⟩ := Kd.N_slice HO_236000.out
                        subst eo44
                        have hcz45_0 : wr.cell? ⟨gb230, 0, none⟩ = some (.slice none 0 0) := (blk_cell BK230.out 0).trans rfl
                        have hcz45_1 : wr.cell? ⟨gb230, 1, none⟩ = some (.bool false) := (blk_cell BK230.out 1).trans rfl
                        have hcz45_2 : wr.cell? ⟨gb230, 2, none⟩ = some (.bool false) := (blk_cell BK230.out 2).trans rfl
                        have hcz45_3 : wr.cell? ⟨gb230, 3, none⟩ = some (.int .i64 0) := (blk_cell BK230.out 3).trans rfl
                        have hfz45_0 := blk_frozen BK230.out 0
                        have hfz45_1 := blk_frozen BK230.out 1
                        have hfz45_2 := blk_frozen BK230.out 2
                        have hfz45_3 := blk_frozen BK230.out 3
                        go_wp2
                        refine bodyPost_ret (results_ct rfl _ _ gb230 28 #[.slice Ao44 x236000_3.length co44, .bool false, .bool false, .int .i64 0] (0, 0) _ rfl (by (with_reducible repeat (first | refine blk_drewN ?_ _ | refine blk_drew ?_ | refine blk_alloc ?_ _)); refine blk_put (cs := #[.slice Ao44 x236000_3.length co44, .bool false, .bool false, .int .i64 0]) ?_ 3 _ rfl; (with_reducible repeat (first | refine blk_drewN ?_ _ | refine blk_drew ?_ | refine blk_alloc ?_ _)); refine blk_put (cs := #[.slice Ao44 x236000_3.length co44, .bool false, .bool false, .int .i64 0]) ?_ 2 _ rfl; (with_reducible repeat (first | refine blk_drewN ?_ _ | refine blk_drew ?_ | refine blk_alloc ?_ _)); refine blk_put (cs := #[.slice Ao44 x236000_3.length co44, .bool false, .bool false, .int .i64 0]) ?_ 1 _ rfl; (with_reducible repeat (first | refine blk_drewN ?_ _ | refine blk_drew ?_ | refine blk_alloc ?_ _)); refine blk_put (cs := #[.slice none 0 0, .bool false, .bool false, .int .i64 0]) ?_ 0 _ rfl; (with_reducible repeat (first | refine blk_drewN ?_ _ | refine blk_drew ?_ | refine blk_alloc ?_ _)); exact BK230.out) Tryz.underlying28 rfl (by kernel_rfl)) rfl ?_
                        exact ⟨_, by first | rfl | (simp [errW_none, errW_some] <;> rfl) | (simp [*, errW_none, errW_some] <;> rfl), by (with_reducible repeat (first | apply Kd.N_alloc | apply Kd.N_drewN | apply Kd.N_drew)); exact Kd.N_mono (Kd.N_far (p := ⟨gb230, 3, none⟩) (Kd.N_far (p := ⟨gb230, 2, none⟩) (Kd.N_far (p := ⟨gb230, 1, none⟩) (Kd.N_far (p := ⟨gb230, 0, none⟩) (Kd.N_mono HO_236000.out (fun k_ hk => (⟨hk, hk.2.1⟩ : _ ∧ k_ ≠ gb230))) (fun _ hk => hk.2) (.slice Ao44 x236000_3.length co44)) (fun _ hk => hk.2) (.bool false)) (fun _ hk => hk.2) (.bool false)) (fun _ hk => hk.2) (.int .i64 0)) (fun _ hk => hk.1.1), by repeat (first | (with_reducible first | exact HB.out | apply below_alloc | apply pw_below_drewN | apply below_drew1 | refine below_set ?_ GE230.out | refine below_set ?_ GE235.out) | exact HB.out)⟩
          · rw [if_neg c15] at H
            exact absurd H (by simp)
        · rw [if_neg c14] at H
          exact absurd H (by simp)


end Go.Proofs.YtnfappdaoeiilaaGreat.PD
