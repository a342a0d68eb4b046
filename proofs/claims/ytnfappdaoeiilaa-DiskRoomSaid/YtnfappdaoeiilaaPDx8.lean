-- Written for this claim by a program of this session's over the kit's print (wip/tools/gprint.py). Not trusted: Lean checks it.
import Derived.Test.YtnfappdaoeiilaaPDx0
import Derived.Test.YtnfappdaoeiilaaPDx1
import Derived.Test.YtnfappdaoeiilaaPDx5
import Derived.Test.YtnfappdaoeiilaaPDx6
import Derived.Test.YtnfappdaoeiilaaPDx7
import Derived.Test.YtnfappdaoeiilaaHAwake
namespace Go.Proofs.Ytnfappdaoeiilaa.PD
open Go.RowKit Go.Proofs.YtnfappdaoeiilaaW.PrintWords Go.Proofs.YtnfappdaoeiilaaW.PrintLast Go.Proofs.YtnfappdaoeiilaaW.PrintMore
attribute [local go_sem] max2_int min2_int max_two min_two max_three min_three max_four min_four   -- for this text's walks alone
set_option linter.unusedVariables false
set_option linter.unusedSimpArgs false

/-! ### clinkerlaw14_DiskRoom: function 3 -/
mutual
def clinkerlaw14_DiskRoom.j1 : Nat → Bool → List Int → Int → Int → Int → Int → Option (Bool)
  | 0, _, _, _, _, _, _ => none
  | k + 1, x11, x13, x383000, x383001, x383002, x383003 => (disk_Format.f k x383000 x383001 x383002 x383003 x13).bind fun bt387 => (if bt387.2.2.2.2.2.2.2.2.2.2.2.2 = 0 then (clinkerlaw14_DiskRoom.l1 k x11 0 0 x383000 x383001 x383002 x383003 bt387.1 bt387.2.1 bt387.2.2.1 bt387.2.2.2.1 bt387.2.2.2.2.1 bt387.2.2.2.2.2.1 bt387.2.2.2.2.2.2.1 bt387.2.2.2.2.2.2.2.1 bt387.2.2.2.2.2.2.2.2.1 bt387.2.2.2.2.2.2.2.2.2.1 bt387.2.2.2.2.2.2.2.2.2.2.1 bt387.2.2.2.2.2.2.2.2.2.2.2.1) else (if x11 = true then (some ((bt387.2.2.2.2.1.length : Int) == 0)) else (some false)))
def clinkerlaw14_DiskRoom.l1 : Nat → Bool → Int → Int → Int → Int → Int → Int → Int → Int → Int → Int → List (S50) → Bool → Bool → Int → List Int → List Int → Int → Int → Option (Bool)
  | 0, _, _, _, _, _, _, _, _, _, _, _, _, _, _, _, _, _, _, _ => none
  | k + 1, x11, x17, x18, x383000, x383001, x383002, x383003, x407000, x407001, x407002, x407003, x407004, x407005, x407006, x407007, x407008, x407009, x407010, x407011 => if x18 < (x407004.length : Int) then ((clinkerref10_State.f k x407004 x407005 x407006 x407007 (-1) x18).bind fun t407 => (if t407 = 0 then (clinkerlaw14_DiskRoom.l1 k x11 (wrap64 (x17 + 1)) (wrap64 (x18 + 1)) x383000 x383001 x383002 x383003 x407000 x407001 x407002 x407003 x407004 x407005 x407006 x407007 x407008 x407009 x407010 x407011) else (clinkerlaw14_DiskRoom.l1 k x11 x17 (wrap64 (x18 + 1)) x383000 x383001 x383002 x383003 x407000 x407001 x407002 x407003 x407004 x407005 x407006 x407007 x407008 x407009 x407010 x407011))) else (if x11 = true then ((disk_Fits.f k x383000 x383001 x383002 x383003).bind fun t408 => (if t408 = true then ((disk_Reserve.f k x407000 x407001 x407002 x407003 x407004 x407005 x407006 x407007 x407008 x407009 x407010 x407011).bind fun t409 => (some (decide (x17 > t409)))) else (some false))) else (some false))
def clinkerlaw14_DiskRoom.l0 : Nat → List Int → Bool → List Int → Int → Int → Int → Int → Int → Option (Bool)
  | 0, _, _, _, _, _, _, _, _ => none
  | k + 1, x4, x11, x13, x14, x383000, x383001, x383002, x383003 => if x14 < (x4.length : Int) then (if x14 < x383003 then (if x14 < 15 then (if 0 ≤ x14 then (if x13.length < 17592186044416 then (clinkerlaw14_DiskRoom.l0 k x4 x11 (x13 ++ [Int.tmod (wrap64 (rd x4 x14)) 33]) (wrap64 (x14 + 1)) x383000 x383001 x383002 x383003) else (none)) else (none)) else (clinkerlaw14_DiskRoom.j1 k x11 x13 x383000 x383001 x383002 x383003)) else (clinkerlaw14_DiskRoom.j1 k x11 x13 x383000 x383001 x383002 x383003)) else (clinkerlaw14_DiskRoom.j1 k x11 x13 x383000 x383001 x383002 x383003)
end
def clinkerlaw14_DiskRoom.f (k : Nat) (a0 : Int) (a1 : Int) (a2 : Int) (a3 : Int) (l4 : List Int) : Option (Bool) := (clinkerlaw14_awake.f k).bind fun t381 => (if t381 = true then (clinkerlaw14_DiskRoom.l0 k l4 t381 ([] : List Int) 0 (Int.tmod (wrap64 (a0)) 33) (Int.tmod (wrap64 (a1)) 17) (Int.tmod (wrap64 (a2)) 65) (Int.tmod (wrap64 (a3)) 16)) else (some false))
theorem clinkerlaw14_DiskRoom.mono_l : ∀ k, (∀ y0 y1 y2 y3 y4 y5, LeO (clinkerlaw14_DiskRoom.j1 k y0 y1 y2 y3 y4 y5) (clinkerlaw14_DiskRoom.j1 (k + 1) y0 y1 y2 y3 y4 y5)) ∧ (∀ y0 y1 y2 y3 y4 y5 y6 y7 y8 y9 y10 y11 y12 y13 y14 y15 y16 y17 y18, LeO (clinkerlaw14_DiskRoom.l1 k y0 y1 y2 y3 y4 y5 y6 y7 y8 y9 y10 y11 y12 y13 y14 y15 y16 y17 y18) (clinkerlaw14_DiskRoom.l1 (k + 1) y0 y1 y2 y3 y4 y5 y6 y7 y8 y9 y10 y11 y12 y13 y14 y15 y16 y17 y18)) ∧ (∀ y0 y1 y2 y3 y4 y5 y6 y7, LeO (clinkerlaw14_DiskRoom.l0 k y0 y1 y2 y3 y4 y5 y6 y7) (clinkerlaw14_DiskRoom.l0 (k + 1) y0 y1 y2 y3 y4 y5 y6 y7))
  | 0 => ⟨fun _ _ _ _ _ _ r h => by simp [clinkerlaw14_DiskRoom.j1] at h, fun _ _ _ _ _ _ _ _ _ _ _ _ _ _ _ _ _ _ _ r h => by simp [clinkerlaw14_DiskRoom.l1] at h, fun _ _ _ _ _ _ _ _ r h => by simp [clinkerlaw14_DiskRoom.l0] at h⟩
  | k + 1 => by
    obtain ⟨ih0, ih1, ih2⟩ := clinkerlaw14_DiskRoom.mono_l k
    refine ⟨?_, ?_, ?_⟩
    · intro y0 y1 y2 y3 y4 y5
      unfold clinkerlaw14_DiskRoom.j1
      repeat' first
      | (with_reducible exact ih0 _ _ _ _ _ _)
      | (with_reducible exact ih1 _ _ _ _ _ _ _ _ _ _ _ _ _ _ _ _ _ _ _)
      | (with_reducible exact ih2 _ _ _ _ _ _ _ _)
      | (with_reducible exact clinkerlaw14_awake.mono _)
      | (with_reducible exact clinkerref10_State.mono _ _ _ _ _ _ _)
      | (with_reducible exact disk_Fits.mono _ _ _ _ _)
      | (with_reducible exact disk_Format.mono _ _ _ _ _ _)
      | (with_reducible exact disk_Reserve.mono _ _ _ _ _ _ _ _ _ _ _ _ _)
      | (with_reducible exact LeO.refl _)
      | (with_reducible exact LeO.none _)
      | (with_reducible refine LeO.ite ?_ ?_)
      | (with_reducible refine LeO.bind ?_ (fun _ => ?_))
      | exact ih0 _ _ _ _ _ _
      | exact ih1 _ _ _ _ _ _ _ _ _ _ _ _ _ _ _ _ _ _ _
      | exact ih2 _ _ _ _ _ _ _ _
      | exact clinkerlaw14_awake.mono _
      | exact clinkerref10_State.mono _ _ _ _ _ _ _
      | exact disk_Fits.mono _ _ _ _ _
      | exact disk_Format.mono _ _ _ _ _ _
      | exact disk_Reserve.mono _ _ _ _ _ _ _ _ _ _ _ _ _
      | exact LeO.none _
      | refine LeO.ite ?_ ?_
      | refine LeO.bind ?_ (fun _ => ?_)
    · intro y0 y1 y2 y3 y4 y5 y6 y7 y8 y9 y10 y11 y12 y13 y14 y15 y16 y17 y18
      unfold clinkerlaw14_DiskRoom.l1
      repeat' first
      | (with_reducible exact ih0 _ _ _ _ _ _)
      | (with_reducible exact ih1 _ _ _ _ _ _ _ _ _ _ _ _ _ _ _ _ _ _ _)
      | (with_reducible exact ih2 _ _ _ _ _ _ _ _)
      | (with_reducible exact clinkerlaw14_awake.mono _)
      | (with_reducible exact clinkerref10_State.mono _ _ _ _ _ _ _)
      | (with_reducible exact disk_Fits.mono _ _ _ _ _)
      | (with_reducible exact disk_Format.mono _ _ _ _ _ _)
      | (with_reducible exact disk_Reserve.mono _ _ _ _ _ _ _ _ _ _ _ _ _)
      | (with_reducible exact LeO.refl _)
      | (with_reducible exact LeO.none _)
      | (with_reducible refine LeO.ite ?_ ?_)
      | (with_reducible refine LeO.bind ?_ (fun _ => ?_))
      | exact ih0 _ _ _ _ _ _
      | exact ih1 _ _ _ _ _ _ _ _ _ _ _ _ _ _ _ _ _ _ _
      | exact ih2 _ _ _ _ _ _ _ _
      | exact clinkerlaw14_awake.mono _
      | exact clinkerref10_State.mono _ _ _ _ _ _ _
      | exact disk_Fits.mono _ _ _ _ _
      | exact disk_Format.mono _ _ _ _ _ _
      | exact disk_Reserve.mono _ _ _ _ _ _ _ _ _ _ _ _ _
      | exact LeO.none _
      | refine LeO.ite ?_ ?_
      | refine LeO.bind ?_ (fun _ => ?_)
    · intro y0 y1 y2 y3 y4 y5 y6 y7
      unfold clinkerlaw14_DiskRoom.l0
      repeat' first
      | (with_reducible exact ih0 _ _ _ _ _ _)
      | (with_reducible exact ih1 _ _ _ _ _ _ _ _ _ _ _ _ _ _ _ _ _ _ _)
      | (with_reducible exact ih2 _ _ _ _ _ _ _ _)
      | (with_reducible exact clinkerlaw14_awake.mono _)
      | (with_reducible exact clinkerref10_State.mono _ _ _ _ _ _ _)
      | (with_reducible exact disk_Fits.mono _ _ _ _ _)
      | (with_reducible exact disk_Format.mono _ _ _ _ _ _)
      | (with_reducible exact disk_Reserve.mono _ _ _ _ _ _ _ _ _ _ _ _ _)
      | (with_reducible exact LeO.refl _)
      | (with_reducible exact LeO.none _)
      | (with_reducible refine LeO.ite ?_ ?_)
      | (with_reducible refine LeO.bind ?_ (fun _ => ?_))
      | exact ih0 _ _ _ _ _ _
      | exact ih1 _ _ _ _ _ _ _ _ _ _ _ _ _ _ _ _ _ _ _
      | exact ih2 _ _ _ _ _ _ _ _
      | exact clinkerlaw14_awake.mono _
      | exact clinkerref10_State.mono _ _ _ _ _ _ _
      | exact disk_Fits.mono _ _ _ _ _
      | exact disk_Format.mono _ _ _ _ _ _
      | exact disk_Reserve.mono _ _ _ _ _ _ _ _ _ _ _ _ _
      | exact LeO.none _
      | refine LeO.ite ?_ ?_
      | refine LeO.bind ?_ (fun _ => ?_)
theorem clinkerlaw14_DiskRoom.mono : ∀ a0 a1 a2 a3 a4 k, LeO (clinkerlaw14_DiskRoom.f k a0 a1 a2 a3 a4) (clinkerlaw14_DiskRoom.f (k + 1) a0 a1 a2 a3 a4) := by
  intro a0 a1 a2 a3 a4 k
  obtain ⟨ih0, ih1, ih2⟩ := clinkerlaw14_DiskRoom.mono_l k
  unfold clinkerlaw14_DiskRoom.f
  repeat' first
      | (with_reducible exact ih0 _ _ _ _ _ _)
      | (with_reducible exact ih1 _ _ _ _ _ _ _ _ _ _ _ _ _ _ _ _ _ _ _)
      | (with_reducible exact ih2 _ _ _ _ _ _ _ _)
      | (with_reducible exact clinkerlaw14_awake.mono _)
      | (with_reducible exact clinkerref10_State.mono _ _ _ _ _ _ _)
      | (with_reducible exact disk_Fits.mono _ _ _ _ _)
      | (with_reducible exact disk_Format.mono _ _ _ _ _ _)
      | (with_reducible exact disk_Reserve.mono _ _ _ _ _ _ _ _ _ _ _ _ _)
      | (with_reducible exact LeO.refl _)
      | (with_reducible exact LeO.none _)
      | (with_reducible refine LeO.ite ?_ ?_)
      | (with_reducible refine LeO.bind ?_ (fun _ => ?_))
      | exact ih0 _ _ _ _ _ _
      | exact ih1 _ _ _ _ _ _ _ _ _ _ _ _ _ _ _ _ _ _ _
      | exact ih2 _ _ _ _ _ _ _ _
      | exact clinkerlaw14_awake.mono _
      | exact clinkerref10_State.mono _ _ _ _ _ _ _
      | exact disk_Fits.mono _ _ _ _ _
      | exact disk_Format.mono _ _ _ _ _ _
      | exact disk_Reserve.mono _ _ _ _ _ _ _ _ _ _ _ _ _
      | exact LeO.none _
      | refine LeO.ite ?_ ?_
      | refine LeO.bind ?_ (fun _ => ?_)
set_option maxHeartbeats 8000000 in
set_option maxRecDepth 100000 in
theorem clinkerlaw14_DiskRoom.calls (k : Nat) (a0 : Int) (a1 : Int) (a2 : Int) (a3 : Int) (A4 : Option Addr) (c4 : Nat) (l4 : List Int) (r : Bool) (w : World) (hr4 : Kd.C (Kd.int .u8) w A4 l4.length l4) (hc4 : l4.length ≤ c4) (h : clinkerlaw14_DiskRoom.f k a0 a1 a2 a3 l4 = some r) :
    Calls Try.prog 3 #[.int .u8 a0, .int .u8 a1, .int .u8 a2, .int .u8 a3, .slice A4 l4.length c4] w fun e w' => e = .returned (.bool r) ∧ Below w.heap.size w w' := by
  have hu25 := Try.underlying25
  have hu33 := Try.underlying33
  have hu29 := Try.underlying29
  have HR4 := Aside0.mk hr4
  have HC4 := Aside0.mk hc4
  clear hr4 hc4
  have HB := Aside0.mk (Below.refl w.heap.size w)
  have H : ((clinkerlaw14_awake.f k).bind fun t381 => (if t381 = true then (clinkerlaw14_DiskRoom.l0 k l4 t381 ([] : List Int) 0 (Int.tmod (wrap64 (a0)) 33) (Int.tmod (wrap64 (a1)) 17) (Int.tmod (wrap64 (a2)) 65) (Int.tmod (wrap64 (a3)) 16)) else (some false))) = some r := h
  clear h
  replace H := Option.bind_eq_some_iff.mp H
  obtain ⟨t381, A60, H⟩ := H
  replace H : (if t381 = true then (clinkerlaw14_DiskRoom.l0 k l4 t381 ([] : List Int) 0 (Int.tmod (wrap64 (a0)) 33) (Int.tmod (wrap64 (a1)) 17) (Int.tmod (wrap64 (a2)) 65) (Int.tmod (wrap64 (a3)) 16)) else (some false)) = some r := H
  have A6 := Aside0.mk A60
  clear A60
  by_cases c7 : t381 = true
  · subst c7
    have H1 : (clinkerlaw14_DiskRoom.l0 k l4 true ([] : List Int) 0 (Int.tmod (wrap64 (a0)) 33) (Int.tmod (wrap64 (a1)) 17) (Int.tmod (wrap64 (a2)) 65) (Int.tmod (wrap64 (a3)) 16)) = some r := by rw [if_pos rfl] at H; exact H
    clear H
    have H := H1
    clear H1
    have HC8 := Aside0.mk H
    clear H
    go_enter Try.func3, Try.ntmps3
    go_upto_block 0 with (first | ((with_reducible refine gate_callee (f := 4) rfl ?_); refine goesL_ (some 19) rfl rfl Try.func4 (by kernel_rfl) rfl #[] rfl (by (try simp only [List.map_toArray, List.map_cons, List.map_nil]); first | done | rfl | (simp only [List.length_drop, List.length_take]; rfl)) ?_; (with_reducible refine (clinkerlaw14_awake.calls k  true _ A6.out).mono ?_); rintro e w9 ⟨rfl, hb⟩; refine ⟨_, rfl, ?_⟩; have n0_ := Aside0.mk (below_step (by repeat (first | (with_reducible first | exact HB.out | apply below_alloc | apply pw_below_drewN | apply below_drew1) | exact HB.out)) hb); clear HB; have HB := n0_; clear n0_; (try clear hb); (try clear hb2); (try clear hk); (try clear hi)) | ((with_reducible refine gate_dst (N := 12) rfl ?_); (try (refine gate_guard (by rfl) ?_; dsimp only)); refine box_event ?hg (N := 12) ?hd (cs := #[.int .i64 0, .int .i64 0, .int .i64 0, .int .i64 0]) (t := 25) ?hr ?_; (case hd => rfl); (case hg => rfl); (case hr => first | (go_simp; done) | (go_simp; rfl)); intro gb382 hg w10 hbox hb; have n0_ := Aside0.mk (below_step (by repeat (first | (with_reducible first | exact HB.out | apply below_alloc | apply pw_below_drewN | apply below_drew1) | exact HB.out)) hb); have n1_ := Aside0.mk (hbox); have n2_ := Aside0.mk ((by rw [hg]; exact (below_size (by repeat (first | (with_reducible first | exact HB.out | apply below_alloc | apply pw_below_drewN | apply below_drew1) | exact HB.out))) : w.heap.size ≤ gb382)); have n3_ := Aside0.mk ((by rw [hg]; exact (below_size (by repeat (first | (with_reducible first | exact HB.out | apply below_alloc | apply pw_below_drewN | apply below_drew1) | exact HB.out))) : w.heap.size ≤ gb382)); clear HB; have HB := n0_; have BK382 := n1_; have GW382 := n2_; have GE382 := n3_; clear n0_ n1_ n2_ n3_; clear hb hbox hg; have hcz11_0 : w10.cell? ⟨gb382, 0, none⟩ = some (.int .i64 0) := (blk_cell BK382.out 0).trans rfl; have hcz11_1 : w10.cell? ⟨gb382, 1, none⟩ = some (.int .i64 0) := (blk_cell BK382.out 1).trans rfl; have hcz11_2 : w10.cell? ⟨gb382, 2, none⟩ = some (.int .i64 0) := (blk_cell BK382.out 2).trans rfl; have hcz11_3 : w10.cell? ⟨gb382, 3, none⟩ = some (.int .i64 0) := (blk_cell BK382.out 3).trans rfl; have hfz11_0 := blk_frozen BK382.out 0; have hfz11_1 := blk_frozen BK382.out 1; have hfz11_2 := blk_frozen BK382.out 2; have hfz11_3 := blk_frozen BK382.out 3))
    (try simp only [Act.put, List.setIfInBounds_toArray, List.set_cons_zero, List.set_cons_succ])
    go_cut [13] (fun v13 wc => ∃ (kq : Nat) (x13_7 : List Int), Aside0 (clinkerlaw14_DiskRoom.j1 kq true x13_7 (Int.tmod (wrap64 (a0)) 33) (Int.tmod (wrap64 (a1)) 17) (Int.tmod (wrap64 (a2)) 65) (Int.tmod (wrap64 (a3)) 16) = some r) ∧ Aside0 (kq ≤ k) ∧ Aside0 (Kd.R (Kd.int .i64) 3 wc w.heap.size (fun _ => True) v13 x13_7) ∧ Aside0 (wc.heap[gb382]? = some (.cells #[.int .i64 (Int.tmod (wrap64 (a0)) 33), .int .i64 (Int.tmod (wrap64 (a1)) 17), .int .i64 (Int.tmod (wrap64 (a2)) 65), .int .i64 (Int.tmod (wrap64 (a3)) 16)] 25 (0, 0))) ∧ Aside0 (Below w.heap.size w wc))
    case first =>
      have H := HC8.out
      clear HC8
      have H' := Aside0.mk H
      clear H
      go_wp2
      go_loopg [13, 14] k (fun kq v13 v14 w' => ∃ (x13_1 : List Int) (x14_1 : Int), v14 = .int .i64 x14_1 ∧ Aside0 (clinkerlaw14_DiskRoom.l0 kq l4 true x13_1 x14_1 (Int.tmod (wrap64 (a0)) 33) (Int.tmod (wrap64 (a1)) 17) (Int.tmod (wrap64 (a2)) 65) (Int.tmod (wrap64 (a3)) 16) = some r) ∧ Aside0 (kq ≤ k) ∧ Aside0 (Kd.R (Kd.int .i64) 3 w' w.heap.size (fun _ => True) v13 x13_1) ∧ Aside0 (w'.heap[gb382]? = some (.cells #[.int .i64 (Int.tmod (wrap64 (a0)) 33), .int .i64 (Int.tmod (wrap64 (a1)) 17), .int .i64 (Int.tmod (wrap64 (a2)) 65), .int .i64 (Int.tmod (wrap64 (a3)) 16)] 25 (0, 0))) ∧ Aside0 (Below w.heap.size w w'))
      case atStart => exact ⟨(([] : List Int)), (0), (by first | rfl | (simp; done) | (simp [*]; done)), H', ⟨Nat.le_refl _⟩, ⟨by first | exact Kd.R_nil _ _ _ _ _ | exact Kd.N_nil _ _ _ _ _ | exact Kd.V_nil _ _ _ _ _ | exact Kd.Q_nil _ _ _ _ _ | exact Kd.S_nil _ _ _ _ _⟩, ⟨by (with_reducible repeat (first | refine blk_drewN ?_ _ | refine blk_drew ?_ | refine blk_alloc ?_ _)); refine blk_put (cs := #[.int .i64 (Int.tmod (wrap64 (a0)) 33), .int .i64 (Int.tmod (wrap64 (a1)) 17), .int .i64 (Int.tmod (wrap64 (a2)) 65), .int .i64 0]) ?_ 3 _ rfl; (with_reducible repeat (first | refine blk_drewN ?_ _ | refine blk_drew ?_ | refine blk_alloc ?_ _)); refine blk_put (cs := #[.int .i64 (Int.tmod (wrap64 (a0)) 33), .int .i64 (Int.tmod (wrap64 (a1)) 17), .int .i64 0, .int .i64 0]) ?_ 2 _ rfl; (with_reducible repeat (first | refine blk_drewN ?_ _ | refine blk_drew ?_ | refine blk_alloc ?_ _)); refine blk_put (cs := #[.int .i64 (Int.tmod (wrap64 (a0)) 33), .int .i64 0, .int .i64 0, .int .i64 0]) ?_ 1 _ rfl; (with_reducible repeat (first | refine blk_drewN ?_ _ | refine blk_drew ?_ | refine blk_alloc ?_ _)); refine blk_put (cs := #[.int .i64 0, .int .i64 0, .int .i64 0, .int .i64 0]) ?_ 0 _ rfl; (with_reducible repeat (first | refine blk_drewN ?_ _ | refine blk_drew ?_ | refine blk_alloc ?_ _)); exact BK382.out⟩, ⟨by repeat (first | (with_reducible first | exact HB.out | apply below_alloc | apply pw_below_drewN | apply below_drew1 | refine below_set ?_ GE382.out) | exact HB.out)⟩⟩
      case round =>
        clear H'
        try clear p2
        try clear c3
        try clear c4
        try clear p6
        try clear c7
        try clear hcz11_0
        try clear hcz11_1
        try clear hcz11_2
        try clear hcz11_3
        try clear hfz11_0
        try clear hfz11_1
        try clear hfz11_2
        try clear hfz11_3
        obtain ⟨x13_1, x14_1, rfl, HA, HK1, HO_13, BK382, HB⟩ := hrel
        cases gk with
        | zero => exact absurd HA.out (by simp [clinkerlaw14_DiskRoom.l0])
        | succ k1 =>
          have H := HA.out
          clear HA
          simp only [clinkerlaw14_DiskRoom.l0] at H
          by_cases c12 : x14_1 < (l4.length : Int)
          · rw [if_pos c12] at H
            have c12b0 : decide (x14_1 < (l4.length : Int)) = true := decide_eq_true c12
            clear c12
            (first | rw [c12b0] | (simp only [i64_w, i32_w]; rw [c12b0]) | skip)
            by_cases c13 : x14_1 < (Int.tmod (wrap64 (a3)) 16)
            · rw [if_pos c13] at H
              have c13b0 : decide (x14_1 < (Int.tmod (wrap64 (a3)) 16)) = true := decide_eq_true c13
              clear c13
              by_cases c14 : x14_1 < 15
              · rw [if_pos c14] at H
                have c14b0 : decide (x14_1 < 15) = true := decide_eq_true c14
                clear c14
                by_cases c15 : 0 ≤ x14_1
                · rw [if_pos c15] at H
                  have c15b0 : decide (0 ≤ x14_1) = true := decide_eq_true c15
                  clear c15
                  by_cases c16 : x13_1.length < 17592186044416
                  · rw [if_pos c16] at H
                    have LMc16 := Aside0.mk c16
                    clear c16
                    obtain ⟨y384, hy384⟩ : ∃ y_ : List Int, y_ = (x13_1 ++ [Int.tmod (wrap64 (rd l4 x14_1)) 33]) := ⟨_, rfl⟩
                    replace H : (clinkerlaw14_DiskRoom.l0 k1 l4 true y384 (wrap64 (x14_1 + 1)) (Int.tmod (wrap64 (a0)) 33) (Int.tmod (wrap64 (a1)) 17) (Int.tmod (wrap64 (a2)) 65) (Int.tmod (wrap64 (a3)) 16)) = some r := by first | (rw [hy384]; with_reducible exact H) | (have H2_ := (Option.bind_some _ _).symm.trans H; rw [hy384]; with_reducible exact H2_) | (have H2_ := (Option.bind_some _ _).symm.trans H; with_reducible exact H2_) | with_reducible exact H | (rw [hy384]; exact H) | exact H
                    have Ny384 := Aside0.mk hy384
                    clear hy384
                    have H' := Aside0.mk H
                    clear H
                    have hcz17_0 : wr.cell? ⟨gb382, 0, none⟩ = some (.int .i64 (Int.tmod (wrap64 (a0)) 33)) := (blk_cell BK382.out 0).trans rfl
                    have hcz17_1 : wr.cell? ⟨gb382, 1, none⟩ = some (.int .i64 (Int.tmod (wrap64 (a1)) 17)) := (blk_cell BK382.out 1).trans rfl
                    have hcz17_2 : wr.cell? ⟨gb382, 2, none⟩ = some (.int .i64 (Int.tmod (wrap64 (a2)) 65)) := (blk_cell BK382.out 2).trans rfl
                    have hcz17_3 : wr.cell? ⟨gb382, 3, none⟩ = some (.int .i64 (Int.tmod (wrap64 (a3)) 16)) := (blk_cell BK382.out 3).trans rfl
                    have hfz17_0 := blk_frozen BK382.out 0
                    have hfz17_1 := blk_frozen BK382.out 1
                    have hfz17_2 := blk_frozen BK382.out 2
                    have hfz17_3 := blk_frozen BK382.out 3
                    have p383 : 0 ≤ (x14_1 : Int) := of_decide_eq_true (by first | (with_reducible assumption) | assumption)
                    have q383 : x14_1 < (l4.length : Int) := of_decide_eq_true (by first | (with_reducible assumption) | assumption)
                    obtain ⟨ad383, e383, hx383_0⟩ := Kd.at_int HR4.out x14_1 p383 q383
                    cases e383
                    replace hx383_0 := (HB.out.cell (World.block_lt_of_cell? w _ hx383_0)).trans hx383_0
                    replace p383 := eq_true p383
                    replace q383 := eq_true q383
                    go_wp2_with (first | ((with_reducible refine gate_builtin (b := .append) (xs := #[.tmp 51, .tmp 58]) rfl ?_); (try (refine gate_guard (by rfl) ?_; dsimp only)); at_builtin; refine Kd.R_append (Kd.int .i64) (w0 := w) w.heap.size rfl (.tmp 51) (.tmp 58) 26 3 (.int .i64 0) 8 rfl Try.underlying26 info3 rfl (by decide) (by omega) u13 x13_1 (Int.tmod (wrap64 (rd l4 x14_1)) 33) [.int .i64 (Int.tmod (wrap64 (rd l4 x14_1)) 33)] (fun _ => True) (fun _ => False) rfl rfl ?aP (fun _ hk => hk.elim) ?aF ?aO ?aB ?aS ?aL ?_; (case aP => exact rfl); (case aB => exact (by repeat (first | (with_reducible first | exact HB.out | apply below_alloc | apply pw_below_drewN | apply below_drew1 | refine below_set ?_ GE382.out) | exact HB.out))); (case aF => exact (fun _ _ => trivial)); (case aO => exact (by (with_reducible repeat (first | apply Kd.R_alloc | apply Kd.R_drewN | apply Kd.R_drew)); exact HO_13.out)); (case aS => exact (below_size (by repeat (first | (with_reducible first | exact HB.out | apply below_alloc | apply pw_below_drewN | apply below_drew1 | refine below_set ?_ GE382.out) | exact HB.out)))); (case aL => have := LMc16.out; omega); intro v385 w18 ho hb hg hat; rw [← Ny384.out] at ho; have n0_ := Aside0.mk (blk_grown (g := gb382) (o := .cells #[.int .i64 (Int.tmod (wrap64 (a0)) 33), .int .i64 (Int.tmod (wrap64 (a1)) 17), .int .i64 (Int.tmod (wrap64 (a2)) 65), .int .i64 (Int.tmod (wrap64 (a3)) 16)] 25 (0, 0)) (by (with_reducible repeat (first | refine blk_drewN ?_ _ | refine blk_drew ?_ | refine blk_alloc ?_ _)); exact BK382.out) hg (Kd.R_ne HO_13.out BK382.out (by decide))); have n1_ := Aside0.mk (hb); have n2_ := Aside0.mk (ho); clear BK382; clear HB; clear HO_13; have BK382 := n0_; have HB := n1_; have HO386 := n2_; clear n0_ n1_ n2_; clear ho hb hg hat))
                    go_roundg k1
                    case measure => have := HK1.out; omega
                    case rel => exact ⟨(y384), (wrap64 (x14_1 + 1)), (by first | rfl | (simp; done) | (simp [*]; done)), H', ⟨by have := HK1.out; omega⟩, ⟨by (with_reducible repeat (first | apply Kd.R_alloc | apply Kd.R_drewN | apply Kd.R_drew)); exact HO386.out⟩, ⟨by (with_reducible repeat (first | refine blk_drewN ?_ _ | refine blk_drew ?_ | refine blk_alloc ?_ _)); exact BK382.out⟩, ⟨by repeat (first | (with_reducible first | exact HB.out | apply below_alloc | apply pw_below_drewN | apply below_drew1 | refine below_set ?_ GE382.out) | exact HB.out)⟩⟩
                  · rw [if_neg c16] at H
                    exact absurd H (by simp)
                · rw [if_neg c15] at H
                  exact absurd H (by simp)
              · rw [if_neg c14] at H
                have c14b0 : decide (x14_1 < 15) = false := decide_eq_false c14
                clear c14
                have H' := Aside0.mk H
                clear H
                have hcz19_0 : wr.cell? ⟨gb382, 0, none⟩ = some (.int .i64 (Int.tmod (wrap64 (a0)) 33)) := (blk_cell BK382.out 0).trans rfl
                have hcz19_1 : wr.cell? ⟨gb382, 1, none⟩ = some (.int .i64 (Int.tmod (wrap64 (a1)) 17)) := (blk_cell BK382.out 1).trans rfl
                have hcz19_2 : wr.cell? ⟨gb382, 2, none⟩ = some (.int .i64 (Int.tmod (wrap64 (a2)) 65)) := (blk_cell BK382.out 2).trans rfl
                have hcz19_3 : wr.cell? ⟨gb382, 3, none⟩ = some (.int .i64 (Int.tmod (wrap64 (a3)) 16)) := (blk_cell BK382.out 3).trans rfl
                have hfz19_0 := blk_frozen BK382.out 0
                have hfz19_1 := blk_frozen BK382.out 1
                have hfz19_2 := blk_frozen BK382.out 2
                have hfz19_3 := blk_frozen BK382.out 3
                go_wp2
                go_meet
                case rel => exact ⟨_, (x13_1), H', ⟨by have := HK1.out; first | omega | exact Nat.le_refl _⟩, ⟨by (with_reducible repeat (first | apply Kd.R_alloc | apply Kd.R_drewN | apply Kd.R_drew)); exact HO_13.out⟩, ⟨by (with_reducible repeat (first | refine blk_drewN ?_ _ | refine blk_drew ?_ | refine blk_alloc ?_ _)); exact BK382.out⟩, ⟨by repeat (first | (with_reducible first | exact HB.out | apply below_alloc | apply pw_below_drewN | apply below_drew1 | refine below_set ?_ GE382.out) | exact HB.out)⟩⟩
            · rw [if_neg c13] at H
              have c13b0 : decide (x14_1 < (Int.tmod (wrap64 (a3)) 16)) = false := decide_eq_false c13
              clear c13
              have H' := Aside0.mk H
              clear H
              have hcz20_0 : wr.cell? ⟨gb382, 0, none⟩ = some (.int .i64 (Int.tmod (wrap64 (a0)) 33)) := (blk_cell BK382.out 0).trans rfl
              have hcz20_1 : wr.cell? ⟨gb382, 1, none⟩ = some (.int .i64 (Int.tmod (wrap64 (a1)) 17)) := (blk_cell BK382.out 1).trans rfl
              have hcz20_2 : wr.cell? ⟨gb382, 2, none⟩ = some (.int .i64 (Int.tmod (wrap64 (a2)) 65)) := (blk_cell BK382.out 2).trans rfl
              have hcz20_3 : wr.cell? ⟨gb382, 3, none⟩ = some (.int .i64 (Int.tmod (wrap64 (a3)) 16)) := (blk_cell BK382.out 3).trans rfl
              have hfz20_0 := blk_frozen BK382.out 0
              have hfz20_1 := blk_frozen BK382.out 1
              have hfz20_2 := blk_frozen BK382.out 2
              have hfz20_3 := blk_frozen BK382.out 3
              go_wp2
              go_meet
              case rel => exact ⟨_, (x13_1), H', ⟨by have := HK1.out; first | omega | exact Nat.le_refl _⟩, ⟨by (with_reducible repeat (first | apply Kd.R_alloc | apply Kd.R_drewN | apply Kd.R_drew)); exact HO_13.out⟩, ⟨by (with_reducible repeat (first | refine blk_drewN ?_ _ | refine blk_drew ?_ | refine blk_alloc ?_ _)); exact BK382.out⟩, ⟨by repeat (first | (with_reducible first | exact HB.out | apply below_alloc | apply pw_below_drewN | apply below_drew1 | refine below_set ?_ GE382.out) | exact HB.out)⟩⟩
          · rw [if_neg c12] at H
            have c12b0 : decide (x14_1 < (l4.length : Int)) = false := decide_eq_false c12
            clear c12
            (first | rw [c12b0] | (simp only [i64_w, i32_w]; rw [c12b0]) | skip)
            have H' := Aside0.mk H
            clear H
            go_wp2
            go_meet
            case rel => exact ⟨_, (x13_1), H', ⟨by have := HK1.out; first | omega | exact Nat.le_refl _⟩, ⟨by (with_reducible repeat (first | apply Kd.R_alloc | apply Kd.R_drewN | apply Kd.R_drew)); exact HO_13.out⟩, ⟨by (with_reducible repeat (first | refine blk_drewN ?_ _ | refine blk_drew ?_ | refine blk_alloc ?_ _)); exact BK382.out⟩, ⟨by repeat (first | (with_reducible first | exact HB.out | apply below_alloc | apply pw_below_drewN | apply below_drew1 | refine below_set ?_ GE382.out) | exact HB.out)⟩⟩
    case rest =>
      clear HC8
      try clear c1
      try clear p2
      try clear c3
      try clear p3
      try clear q3
      try clear hx3
      try clear c4
      try clear p6
      try clear c7
      try clear c12
      try clear c12b0
      try clear c13
      try clear c13b0
      try clear c14
      try clear c14b0
      try clear c15
      try clear c15b0
      try clear c16
      try clear hcz11_0
      try clear hcz11_1
      try clear hcz11_2
      try clear hcz11_3
      try clear hcz17_0
      try clear hcz17_1
      try clear hcz17_2
      try clear hcz17_3
      try clear hcz19_0
      try clear hcz19_1
      try clear hcz19_2
      try clear hcz19_3
      try clear hcz20_0
      try clear hcz20_1
      try clear hcz20_2
      try clear hcz20_3
      try clear hfz11_0
      try clear hfz11_1
      try clear hfz11_2
      try clear hfz11_3
      try clear hfz17_0
      try clear hfz17_1
      try clear hfz17_2
      try clear hfz17_3
      try clear hfz19_0
      try clear hfz19_1
      try clear hfz19_2
      try clear hfz19_3
      try clear hfz20_0
      try clear hfz20_1
      try clear hfz20_2
      try clear hfz20_3
      try clear hx383_0
      try clear p2
      try clear p383
      try clear p6
      try clear q383
      obtain ⟨kq, x13_7, HA, HJ7, HO_13, BK382, HB⟩ := hcut
      cases kq with
      | zero => exact absurd HA.out (by simp [clinkerlaw14_DiskRoom.j1])
      | succ kj7 =>
        have H := HA.out
        clear HA
        simp only [clinkerlaw14_DiskRoom.j1] at H
        replace H := Option.bind_eq_some_iff.mp H
        obtain ⟨⟨t387, t388, t389, t390, t391, t394, t395, t396, t397, t400, t403, t404, t405⟩, A210, H⟩ := H
        replace H : (if t405 = 0 then (clinkerlaw14_DiskRoom.l1 kj7 true 0 0 (Int.tmod (wrap64 (a0)) 33) (Int.tmod (wrap64 (a1)) 17) (Int.tmod (wrap64 (a2)) 65) (Int.tmod (wrap64 (a3)) 16) t387 t388 t389 t390 t391 t394 t395 t396 t397 t400 t403 t404) else (if true = true then (some ((t391.length : Int) == 0)) else (some false))) = some r := H
        have A21 := Aside0.mk A210
        clear A210
        by_cases c22 : t405 = 0
        · rw [if_pos c22] at H
          have c22b0 : (t405 == 0) = true := beq_iff_eq.mpr c22
          have c22b1 : (t405 != 0) = false := bne_eq_false_iff_eq.mpr c22
          clear c22
          have H' := Aside0.mk H
          clear H
          have hcz23_0 : wc.cell? ⟨gb382, 0, none⟩ = some (.int .i64 (Int.tmod (wrap64 (a0)) 33)) := (blk_cell BK382.out 0).trans rfl
          have hcz23_1 : wc.cell? ⟨gb382, 1, none⟩ = some (.int .i64 (Int.tmod (wrap64 (a1)) 17)) := (blk_cell BK382.out 1).trans rfl
          have hcz23_2 : wc.cell? ⟨gb382, 2, none⟩ = some (.int .i64 (Int.tmod (wrap64 (a2)) 65)) := (blk_cell BK382.out 2).trans rfl
          have hcz23_3 : wc.cell? ⟨gb382, 3, none⟩ = some (.int .i64 (Int.tmod (wrap64 (a3)) 16)) := (blk_cell BK382.out 3).trans rfl
          have hfz23_0 := blk_frozen BK382.out 0
          have hfz23_1 := blk_frozen BK382.out 1
          have hfz23_2 := blk_frozen BK382.out 2
          have hfz23_3 := blk_frozen BK382.out 3
          obtain ⟨Ao24, co24, eo24⟩ := Kd.R_slice HO_13.out
          subst eo24
          go_wp2_with (first | ((with_reducible refine gate_callee (f := 5) rfl ?_); refine goesL_ (some 63) rfl rfl Try.func5 (by kernel_rfl) rfl #[.agg #[.int .i64 (Int.tmod (wrap64 (a0)) 33), .int .i64 (Int.tmod (wrap64 (a1)) 17), .int .i64 (Int.tmod (wrap64 (a2)) 65), .int .i64 (Int.tmod (wrap64 (a3)) 16)], .slice Ao24 x13_7.length co24] rfl (by (try simp only [List.map_toArray, List.map_cons, List.map_nil]); first | done | rfl | (simp only [List.length_drop, List.length_take]; rfl)) ?_; (with_reducible refine (disk_Format.calls kj7 (Int.tmod (wrap64 (a0)) 33) (Int.tmod (wrap64 (a1)) 17) (Int.tmod (wrap64 (a2)) 65) (Int.tmod (wrap64 (a3)) 16) _ _ x13_7 t387 t388 t389 t390 t391 t394 t395 t396 t397 t400 t403 t404 t405 _ ?side1 ?side2 A21.out).mono ?_); (case side1 => repeat (first | exact (Kd.R_reads' HO_13.out).2.2 | (with_reducible refine Kd.C_alloc ?_ _) | (with_reducible refine Kd.C_drewN ?_ _) | (with_reducible refine Kd.C_drew ?_))); (case side2 => exact (Kd.R_reads' HO_13.out).2.1); rintro e w25 ⟨v392, v398, v401, rfl, ho0, ho1, ho2, hb⟩; refine ⟨_, rfl, ?_⟩; have n0_ := Aside0.mk (Kd.R_mono (Kd.R_told (Kd.R_told (Kd.R_old (by (with_reducible repeat (first | apply Kd.R_alloc | apply Kd.R_drewN | apply Kd.R_drew)); exact HO_13.out) hb) (Kd.R_base ho1)) (Kd.R_base ho2)) (fun _ h_ => h_.1)); have n1_ := Aside0.mk (Kd.V_lower (Kd.V_mono (ok' := fun k_ => some k_ ≠ (v398 : Value).ownBlock ∧ some k_ ≠ (v401 : Value).ownBlock ∧ some k_ ≠ (.slice Ao24 x13_7.length co24 : Value).ownBlock ∧ k_ ≠ gb382) ho0 (fun k_ hk_ => ⟨hk_.2.1, hk_.2.2, (Kd.fresh' (Kd.R_lt (by (with_reducible repeat (first | apply Kd.R_alloc | apply Kd.R_drewN | apply Kd.R_drew)); exact HO_13.out)) k_ hk_.1), (Kd.freshB (g := gb382) (o := .cells #[.int .i64 (Int.tmod (wrap64 (a0)) 33), .int .i64 (Int.tmod (wrap64 (a1)) 17), .int .i64 (Int.tmod (wrap64 (a2)) 65), .int .i64 (Int.tmod (wrap64 (a3)) 16)] 25 (0, 0)) (by (with_reducible repeat (first | refine blk_drewN ?_ _ | refine blk_drew ?_ | refine blk_alloc ?_ _)); exact BK382.out) k_ hk_.1)⟩)) (below_size (by repeat (first | (with_reducible first | exact HB.out | apply below_alloc | apply pw_below_drewN | apply below_drew1 | refine below_set ?_ GE382.out) | exact HB.out)))); have n2_ := Aside0.mk (Kd.R_lower (Kd.R_new' (Kd.R_mono (ok' := fun k_ => some k_ ≠ (v401 : Value).ownBlock) ho1 (fun _ hk_ => hk_.2)) (Kd.R_lt (by (with_reducible repeat (first | apply Kd.R_alloc | apply Kd.R_drewN | apply Kd.R_drew)); exact HO_13.out))) (below_size (by repeat (first | (with_reducible first | exact HB.out | apply below_alloc | apply pw_below_drewN | apply below_drew1 | refine below_set ?_ GE382.out) | exact HB.out)))); have n3_ := Aside0.mk (Kd.R_lower (Kd.R_new' (Kd.R_mono (ok' := fun k_ => some k_ ≠ (v398 : Value).ownBlock) ho2 (fun _ hk_ => hk_.2)) (Kd.R_lt (by (with_reducible repeat (first | apply Kd.R_alloc | apply Kd.R_drewN | apply Kd.R_drew)); exact HO_13.out))) (below_size (by repeat (first | (with_reducible first | exact HB.out | apply below_alloc | apply pw_below_drewN | apply below_drew1 | refine below_set ?_ GE382.out) | exact HB.out)))); have n4_ := Aside0.mk (blk_below (g := gb382) (o := .cells #[.int .i64 (Int.tmod (wrap64 (a0)) 33), .int .i64 (Int.tmod (wrap64 (a1)) 17), .int .i64 (Int.tmod (wrap64 (a2)) 65), .int .i64 (Int.tmod (wrap64 (a3)) 16)] 25 (0, 0)) (by (with_reducible repeat (first | refine blk_drewN ?_ _ | refine blk_drew ?_ | refine blk_alloc ?_ _)); exact BK382.out) hb); have n5_ := Aside0.mk (below_step (by repeat (first | (with_reducible first | exact HB.out | apply below_alloc | apply pw_below_drewN | apply below_drew1 | refine below_set ?_ GE382.out) | exact HB.out)) hb); clear HO_13; clear BK382; clear HB; have HO_13 := n0_; have HO393 := n1_; have HO399 := n2_; have HO402 := n3_; have BK382 := n4_; have HB := n5_; clear n0_ n1_ n2_ n3_ n4_ n5_; (try clear hb); (try clear hb2); (try clear hk); (try clear hi); (try clear ho0); (try clear ho1); (try clear ho2)) | ((with_reducible refine gate_dst (N := 15) rfl ?_); (try (refine gate_guard (by rfl) ?_; dsimp only)); refine box_event ?hg (N := 15) ?hd (cs := #[.int .i64 0, .int .i64 0, .int .i64 0, .int .i64 0, .slice none 0 0, .bool false, .bool false, .int .i64 0, .slice none 0 0, .slice none 0 0, .int .i64 0, .int .i64 0]) (t := 33) ?hr ?_; (case hd => rfl); (case hg => rfl); (case hr => first | (go_simp; done) | (go_simp; rfl)); intro gb406 hg w26 hbox hb; have n0_ := Aside0.mk (Kd.R_below (by (with_reducible repeat (first | apply Kd.R_alloc | apply Kd.R_drewN | apply Kd.R_drew)); exact HO_13.out) hb); have n1_ := Aside0.mk (Kd.V_below (Kd.V_elderB (by (with_reducible repeat (first | apply Kd.V_alloc | apply Kd.V_drewN | apply Kd.V_drew)); exact HO393.out) gb406 (Nat.le_of_eq hg.symm)) hb); have n2_ := Aside0.mk (Kd.R_below (by (with_reducible repeat (first | apply Kd.R_alloc | apply Kd.R_drewN | apply Kd.R_drew)); exact HO399.out) hb); have n3_ := Aside0.mk (Kd.R_below (by (with_reducible repeat (first | apply Kd.R_alloc | apply Kd.R_drewN | apply Kd.R_drew)); exact HO402.out) hb); have n4_ := Aside0.mk (blk_below (g := gb382) (o := .cells #[.int .i64 (Int.tmod (wrap64 (a0)) 33), .int .i64 (Int.tmod (wrap64 (a1)) 17), .int .i64 (Int.tmod (wrap64 (a2)) 65), .int .i64 (Int.tmod (wrap64 (a3)) 16)] 25 (0, 0)) (by (with_reducible repeat (first | refine blk_drewN ?_ _ | refine blk_drew ?_ | refine blk_alloc ?_ _)); exact BK382.out) hb); have n5_ := Aside0.mk (below_step (by repeat (first | (with_reducible first | exact HB.out | apply below_alloc | apply pw_below_drewN | apply below_drew1 | refine below_set ?_ GE382.out) | exact HB.out)) hb); have n6_ := Aside0.mk (hbox); have n7_ := Aside0.mk ((by rw [hg]; exact (below_size (by repeat (first | (with_reducible first | exact HB.out | apply below_alloc | apply pw_below_drewN | apply below_drew1 | refine below_set ?_ GE382.out) | exact HB.out))) : w.heap.size ≤ gb406)); have n8_ := Aside0.mk ((by rw [hg]; exact (below_size (by repeat (first | (with_reducible first | exact HB.out | apply below_alloc | apply pw_below_drewN | apply below_drew1 | refine below_set ?_ GE382.out) | exact HB.out))) : w.heap.size ≤ gb406)); have n9_ := Aside0.mk ((by rw [hg]; exact Nat.ne_of_lt (blk_lt (g := gb382) (o := .cells #[.int .i64 (Int.tmod (wrap64 (a0)) 33), .int .i64 (Int.tmod (wrap64 (a1)) 17), .int .i64 (Int.tmod (wrap64 (a2)) 65), .int .i64 (Int.tmod (wrap64 (a3)) 16)] 25 (0, 0)) (by (with_reducible repeat (first | refine blk_drewN ?_ _ | refine blk_drew ?_ | refine blk_alloc ?_ _)); exact BK382.out)) : gb382 ≠ gb406)); have n10_ := Aside0.mk ((by rw [hg]; exact Nat.ne_of_gt (blk_lt (g := gb382) (o := .cells #[.int .i64 (Int.tmod (wrap64 (a0)) 33), .int .i64 (Int.tmod (wrap64 (a1)) 17), .int .i64 (Int.tmod (wrap64 (a2)) 65), .int .i64 (Int.tmod (wrap64 (a3)) 16)] 25 (0, 0)) (by (with_reducible repeat (first | refine blk_drewN ?_ _ | refine blk_drew ?_ | refine blk_alloc ?_ _)); exact BK382.out)) : gb406 ≠ gb382)); clear HO_13; clear HO393; clear HO399; clear HO402; clear BK382; clear HB; have HO_13 := n0_; have HO393 := n1_; have HO399 := n2_; have HO402 := n3_; have BK382 := n4_; have HB := n5_; have BK406 := n6_; have GW406 := n7_; have GE406 := n8_; have NB382_406 := n9_; have NB406_382 := n10_; clear n0_ n1_ n2_ n3_ n4_ n5_ n6_ n7_ n8_ n9_ n10_; clear hb hbox hg; have hnb27 := NB406_382.out; have hnc27 := NB382_406.out; have hcz28_0 : w26.cell? ⟨gb406, 0, none⟩ = some (.int .i64 0) := (blk_cell BK406.out 0).trans rfl; have hcz28_1 : w26.cell? ⟨gb406, 1, none⟩ = some (.int .i64 0) := (blk_cell BK406.out 1).trans rfl; have hcz28_2 : w26.cell? ⟨gb406, 2, none⟩ = some (.int .i64 0) := (blk_cell BK406.out 2).trans rfl; have hcz28_3 : w26.cell? ⟨gb406, 3, none⟩ = some (.int .i64 0) := (blk_cell BK406.out 3).trans rfl; have hcz28_4 : w26.cell? ⟨gb406, 4, none⟩ = some (.slice none 0 0) := (blk_cell BK406.out 4).trans rfl; have hcz28_5 : w26.cell? ⟨gb406, 5, none⟩ = some (.bool false) := (blk_cell BK406.out 5).trans rfl; have hcz28_6 : w26.cell? ⟨gb406, 6, none⟩ = some (.bool false) := (blk_cell BK406.out 6).trans rfl; have hcz28_7 : w26.cell? ⟨gb406, 7, none⟩ = some (.int .i64 0) := (blk_cell BK406.out 7).trans rfl; have hcz28_8 : w26.cell? ⟨gb406, 8, none⟩ = some (.slice none 0 0) := (blk_cell BK406.out 8).trans rfl; have hcz28_9 : w26.cell? ⟨gb406, 9, none⟩ = some (.slice none 0 0) := (blk_cell BK406.out 9).trans rfl; have hcz28_10 : w26.cell? ⟨gb406, 10, none⟩ = some (.int .i64 0) := (blk_cell BK406.out 10).trans rfl; have hcz28_11 : w26.cell? ⟨gb406, 11, none⟩ = some (.int .i64 0) := (blk_cell BK406.out 11).trans rfl; have hfz28_0 := blk_frozen BK406.out 0; have hfz28_1 := blk_frozen BK406.out 1; have hfz28_2 := blk_frozen BK406.out 2; have hfz28_3 := blk_frozen BK406.out 3; have hfz28_4 := blk_frozen BK406.out 4; have hfz28_5 := blk_frozen BK406.out 5; have hfz28_6 := blk_frozen BK406.out 6; have hfz28_7 := blk_frozen BK406.out 7; have hfz28_8 := blk_frozen BK406.out 8; have hfz28_9 := blk_frozen BK406.out 9; have hfz28_10 := blk_frozen BK406.out 10; have hfz28_11 := blk_frozen BK406.out 11; obtain ⟨Ao29, co29, eo29⟩ := Kd.V_slice HO393.out; subst eo29; obtain ⟨Ao30, co30, eo30⟩ := Kd.R_slice HO399.out; subst eo30; obtain ⟨Ao31, co31, eo31⟩ := Kd.R_slice HO402.out; subst eo31))
          go_loopg [17, 18] kj7 (fun kq v17 v18 w' => ∃ (x17_2 : Int) (x18_2 : Int), v17 = .int .i64 x17_2 ∧ v18 = .int .i64 x18_2 ∧ Aside0 (clinkerlaw14_DiskRoom.l1 kq true x17_2 x18_2 (Int.tmod (wrap64 (a0)) 33) (Int.tmod (wrap64 (a1)) 17) (Int.tmod (wrap64 (a2)) 65) (Int.tmod (wrap64 (a3)) 16) t387 t388 t389 t390 t391 t394 t395 t396 t397 t400 t403 t404 = some r) ∧ Aside0 (kq ≤ kj7) ∧ Aside0 (Kd.V k50 50 w' w.heap.size (fun k_ => some k_ ≠ ((.slice Ao30 t397.length co30) : Value).ownBlock ∧ some k_ ≠ ((.slice Ao31 t400.length co31) : Value).ownBlock ∧ k_ ≠ gb382 ∧ k_ ≠ gb406) (.slice Ao29 t391.length co29) t391) ∧ Aside0 (Kd.R (Kd.int .i64) 3 w' w.heap.size (fun k_ => some k_ ≠ ((.slice Ao31 t400.length co31) : Value).ownBlock) (.slice Ao30 t397.length co30) t397) ∧ Aside0 (Kd.R (Kd.int .i64) 3 w' w.heap.size (fun k_ => some k_ ≠ ((.slice Ao30 t397.length co30) : Value).ownBlock) (.slice Ao31 t400.length co31) t400) ∧ Aside0 (w'.heap[gb382]? = some (.cells #[.int .i64 (Int.tmod (wrap64 (a0)) 33), .int .i64 (Int.tmod (wrap64 (a1)) 17), .int .i64 (Int.tmod (wrap64 (a2)) 65), .int .i64 (Int.tmod (wrap64 (a3)) 16)] 25 (0, 0))) ∧ Aside0 (w'.heap[gb406]? = some (.cells #[.int .i64 t387, .int .i64 t388, .int .i64 t389, .int .i64 t390, (.slice Ao29 t391.length co29), .bool t394, .bool t395, .int .i64 t396, (.slice Ao30 t397.length co30), (.slice Ao31 t400.length co31), .int .i64 t403, .int .i64 t404] 33 (0, 0))) ∧ Aside0 (Below w.heap.size w w'))
          case atStart => exact ⟨(0), (0), (by first | rfl | (simp; done) | (simp [*]; done)), (by first | rfl | (simp; done) | (simp [*]; done)), H', ⟨Nat.le_refl _⟩, ⟨by (with_reducible repeat (first | apply Kd.V_alloc | apply Kd.V_drewN | apply Kd.V_drew)); exact Kd.V_mono (Kd.V_far (p := ⟨gb406, 11, none⟩) (Kd.V_far (p := ⟨gb406, 10, none⟩) (Kd.V_far (p := ⟨gb406, 9, none⟩) (Kd.V_far (p := ⟨gb406, 8, none⟩) (Kd.V_far (p := ⟨gb406, 7, none⟩) (Kd.V_far (p := ⟨gb406, 6, none⟩) (Kd.V_far (p := ⟨gb406, 5, none⟩) (Kd.V_far (p := ⟨gb406, 4, none⟩) (Kd.V_far (p := ⟨gb406, 3, none⟩) (Kd.V_far (p := ⟨gb406, 2, none⟩) (Kd.V_far (p := ⟨gb406, 1, none⟩) (Kd.V_far (p := ⟨gb406, 0, none⟩) (Kd.V_mono HO393.out (fun k_ hk => (⟨hk, hk.2⟩ : _ ∧ k_ ≠ gb406))) (fun _ hk => hk.2) (.int .i64 t387)) (fun _ hk => hk.2) (.int .i64 t388)) (fun _ hk => hk.2) (.int .i64 t389)) (fun _ hk => hk.2) (.int .i64 t390)) (fun _ hk => hk.2) (.slice Ao29 t391.length co29)) (fun _ hk => hk.2) (.bool t394)) (fun _ hk => hk.2) (.bool t395)) (fun _ hk => hk.2) (.int .i64 t396)) (fun _ hk => hk.2) (.slice Ao30 t397.length co30)) (fun _ hk => hk.2) (.slice Ao31 t400.length co31)) (fun _ hk => hk.2) (.int .i64 t403)) (fun _ hk => hk.2) (.int .i64 t404)) (fun _ hk => ⟨hk.1.1.1, ⟨hk.1.1.2.1, ⟨hk.1.1.2.2.2, hk.1.2⟩⟩⟩)⟩, ⟨by (with_reducible repeat (first | apply Kd.R_alloc | apply Kd.R_drewN | apply Kd.R_drew)); exact Kd.R_mono (Kd.R_far (p := ⟨gb406, 11, none⟩) (Kd.R_far (p := ⟨gb406, 10, none⟩) (Kd.R_far (p := ⟨gb406, 9, none⟩) (Kd.R_far (p := ⟨gb406, 8, none⟩) (Kd.R_far (p := ⟨gb406, 7, none⟩) (Kd.R_far (p := ⟨gb406, 6, none⟩) (Kd.R_far (p := ⟨gb406, 5, none⟩) (Kd.R_far (p := ⟨gb406, 4, none⟩) (Kd.R_far (p := ⟨gb406, 3, none⟩) (Kd.R_far (p := ⟨gb406, 2, none⟩) (Kd.R_far (p := ⟨gb406, 1, none⟩) (Kd.R_far (p := ⟨gb406, 0, none⟩) (Kd.R_types HO399.out BK406.out (by decide)) (fun _ hk => hk.2) (.int .i64 t387)) (fun _ hk => hk.2) (.int .i64 t388)) (fun _ hk => hk.2) (.int .i64 t389)) (fun _ hk => hk.2) (.int .i64 t390)) (fun _ hk => hk.2) (.slice Ao29 t391.length co29)) (fun _ hk => hk.2) (.bool t394)) (fun _ hk => hk.2) (.bool t395)) (fun _ hk => hk.2) (.int .i64 t396)) (fun _ hk => hk.2) (.slice Ao30 t397.length co30)) (fun _ hk => hk.2) (.slice Ao31 t400.length co31)) (fun _ hk => hk.2) (.int .i64 t403)) (fun _ hk => hk.2) (.int .i64 t404)) (fun _ hk => hk.1.1)⟩, ⟨by (with_reducible repeat (first | apply Kd.R_alloc | apply Kd.R_drewN | apply Kd.R_drew)); exact Kd.R_mono (Kd.R_far (p := ⟨gb406, 11, none⟩) (Kd.R_far (p := ⟨gb406, 10, none⟩) (Kd.R_far (p := ⟨gb406, 9, none⟩) (Kd.R_far (p := ⟨gb406, 8, none⟩) (Kd.R_far (p := ⟨gb406, 7, none⟩) (Kd.R_far (p := ⟨gb406, 6, none⟩) (Kd.R_far (p := ⟨gb406, 5, none⟩) (Kd.R_far (p := ⟨gb406, 4, none⟩) (Kd.R_far (p := ⟨gb406, 3, none⟩) (Kd.R_far (p := ⟨gb406, 2, none⟩) (Kd.R_far (p := ⟨gb406, 1, none⟩) (Kd.R_far (p := ⟨gb406, 0, none⟩) (Kd.R_types HO402.out BK406.out (by decide)) (fun _ hk => hk.2) (.int .i64 t387)) (fun _ hk => hk.2) (.int .i64 t388)) (fun _ hk => hk.2) (.int .i64 t389)) (fun _ hk => hk.2) (.int .i64 t390)) (fun _ hk => hk.2) (.slice Ao29 t391.length co29)) (fun _ hk => hk.2) (.bool t394)) (fun _ hk => hk.2) (.bool t395)) (fun _ hk => hk.2) (.int .i64 t396)) (fun _ hk => hk.2) (.slice Ao30 t397.length co30)) (fun _ hk => hk.2) (.slice Ao31 t400.length co31)) (fun _ hk => hk.2) (.int .i64 t403)) (fun _ hk => hk.2) (.int .i64 t404)) (fun _ hk => hk.1.1)⟩, ⟨by (with_reducible repeat (first | refine blk_drewN ?_ _ | refine blk_drew ?_ | refine blk_alloc ?_ _)); refine blk_far ?_ NB382_406.out _; (with_reducible repeat (first | refine blk_drewN ?_ _ | refine blk_drew ?_ | refine blk_alloc ?_ _)); refine blk_far ?_ NB382_406.out _; (with_reducible repeat (first | refine blk_drewN ?_ _ | refine blk_drew ?_ | refine blk_alloc ?_ _)); refine blk_far ?_ NB382_406.out _; (with_reducible repeat (first | refine blk_drewN ?_ _ | refine blk_drew ?_ | refine blk_alloc ?_ _)); refine blk_far ?_ NB382_406.out _; (with_reducible repeat (first | refine blk_drewN ?_ _ | refine blk_drew ?_ | refine blk_alloc ?_ _)); refine blk_far ?_ NB382_406.out _; (with_reducible repeat (first | refine blk_drewN ?_ _ | refine blk_drew ?_ | refine blk_alloc ?_ _)); refine blk_far ?_ NB382_406.out _; (with_reducible repeat (first | refine blk_drewN ?_ _ | refine blk_drew ?_ | refine blk_alloc ?_ _)); refine blk_far ?_ NB382_406.out _; (with_reducible repeat (first | refine blk_drewN ?_ _ | refine blk_drew ?_ | refine blk_alloc ?_ _)); refine blk_far ?_ NB382_406.out _; (with_reducible repeat (first | refine blk_drewN ?_ _ | refine blk_drew ?_ | refine blk_alloc ?_ _)); refine blk_far ?_ NB382_406.out _; (with_reducible repeat (first | refine blk_drewN ?_ _ | refine blk_drew ?_ | refine blk_alloc ?_ _)); refine blk_far ?_ NB382_406.out _; (with_reducible repeat (first | refine blk_drewN ?_ _ | refine blk_drew ?_ | refine blk_alloc ?_ _)); refine blk_far ?_ NB382_406.out _; (with_reducible repeat (first | refine blk_drewN ?_ _ | refine blk_drew ?_ | refine blk_alloc ?_ _)); refine blk_far ?_ NB382_406.out _; (with_reducible repeat (first | refine blk_drewN ?_ _ | refine blk_drew ?_ | refine blk_alloc ?_ _)); exact BK382.out⟩, ⟨by (with_reducible repeat (first | refine blk_drewN ?_ _ | refine blk_drew ?_ | refine blk_alloc ?_ _)); refine blk_put (cs := #[.int .i64 t387, .int .i64 t388, .int .i64 t389, .int .i64 t390, .slice Ao29 t391.length co29, .bool t394, .bool t395, .int .i64 t396, .slice Ao30 t397.length co30, .slice Ao31 t400.length co31, .int .i64 t403, .int .i64 0]) ?_ 11 _ rfl; (with_reducible repeat (first | refine blk_drewN ?_ _ | refine blk_drew ?_ | refine blk_alloc ?_ _)); refine blk_put (cs := #[.int .i64 t387, .int .i64 t388, .int .i64 t389, .int .i64 t390, .slice Ao29 t391.length co29, .bool t394, .bool t395, .int .i64 t396, .slice Ao30 t397.length co30, .slice Ao31 t400.length co31, .int .i64 0, .int .i64 0]) ?_ 10 _ rfl; (with_reducible repeat (first | refine blk_drewN ?_ _ | refine blk_drew ?_ | refine blk_alloc ?_ _)); refine blk_put (cs := #[.int .i64 t387, .int .i64 t388, .int .i64 t389, .int .i64 t390, .slice Ao29 t391.length co29, .bool t394, .bool t395, .int .i64 t396, .slice Ao30 t397.length co30, .slice none 0 0, .int .i64 0, .int .i64 0]) ?_ 9 _ rfl; (with_reducible repeat (first | refine blk_drewN ?_ _ | refine blk_drew ?_ | refine blk_alloc ?_ _)); refine blk_put (cs := #[.int .i64 t387, .int .i64 t388, .int .i64 t389, .int .i64 t390, .slice Ao29 t391.length co29, .bool t394, .bool t395, .int .i64 t396, .slice none 0 0, .slice none 0 0, .int .i64 0, .int .i64 0]) ?_ 8 _ rfl; (with_reducible repeat (first | refine blk_drewN ?_ _ | refine blk_drew ?_ | refine blk_alloc ?_ _)); refine blk_put (cs := #[.int .i64 t387, .int .i64 t388, .int .i64 t389, .int .i64 t390, .slice Ao29 t391.length co29, .bool t394, .bool t395, .int .i64 0, .slice none 0 0, .slice none 0 0, .int .i64 0, .int .i64 0]) ?_ 7 _ rfl; (with_reducible repeat (first | refine blk_drewN ?_ _ | refine blk_drew ?_ | refine blk_alloc ?_ _)); refine blk_put (cs := #[.int .i64 t387, .int .i64 t388, .int .i64 t389, .int .i64 t390, .slice Ao29 t391.length co29, .bool t394, .bool false, .int .i64 0, .slice none 0 0, .slice none 0 0, .int .i64 0, .int .i64 0]) ?_ 6 _ rfl; (with_reducible repeat (first | refine blk_drewN ?_ _ | refine blk_drew ?_ | refine blk_alloc ?_ _)); refine blk_put (cs := #[.int .i64 t387, .int .i64 t388, .int .i64 t389, .int .i64 t390, .slice Ao29 t391.length co29, .bool false, .bool false, .int .i64 0, .slice none 0 0, .slice none 0 0, .int .i64 0, .int .i64 0]) ?_ 5 _ rfl; (with_reducible repeat (first | refine blk_drewN ?_ _ | refine blk_drew ?_ | refine blk_alloc ?_ _)); refine blk_put (cs := #[.int .i64 t387, .int .i64 t388, .int .i64 t389, .int .i64 t390, .slice none 0 0, .bool false, .bool false, .int .i64 0, .slice none 0 0, .slice none 0 0, .int .i64 0, .int .i64 0]) ?_ 4 _ rfl; (with_reducible repeat (first | refine blk_drewN ?_ _ | refine blk_drew ?_ | refine blk_alloc ?_ _)); refine blk_put (cs := #[.int .i64 t387, .int .i64 t388, .int .i64 t389, .int .i64 0, .slice none 0 0, .bool false, .bool false, .int .i64 0, .slice none 0 0, .slice none 0 0, .int .i64 0, .int .i64 0]) ?_ 3 _ rfl; (with_reducible repeat (first | refine blk_drewN ?_ _ | refine blk_drew ?_ | refine blk_alloc ?_ _)); refine blk_put (cs := #[.int .i64 t387, .int .i64 t388, .int .i64 0, .int .i64 0, .slice none 0 0, .bool false, .bool false, .int .i64 0, .slice none 0 0, .slice none 0 0, .int .i64 0, .int .i64 0]) ?_ 2 _ rfl; (with_reducible repeat (first | refine blk_drewN ?_ _ | refine blk_drew ?_ | refine blk_alloc ?_ _)); refine blk_put (cs := #[.int .i64 t387, .int .i64 0, .int .i64 0, .int .i64 0, .slice none 0 0, .bool false, .bool false, .int .i64 0, .slice none 0 0, .slice none 0 0, .int .i64 0, .int .i64 0]) ?_ 1 _ rfl; (with_reducible repeat (first | refine blk_drewN ?_ _ | refine blk_drew ?_ | refine blk_alloc ?_ _)); refine blk_put (cs := #[.int .i64 0, .int .i64 0, .int .i64 0, .int .i64 0, .slice none 0 0, .bool false, .bool false, .int .i64 0, .slice none 0 0, .slice none 0 0, .int .i64 0, .int .i64 0]) ?_ 0 _ rfl; (with_reducible repeat (first | refine blk_drewN ?_ _ | refine blk_drew ?_ | refine blk_alloc ?_ _)); exact BK406.out⟩, ⟨by repeat (first | (with_reducible first | exact HB.out | apply below_alloc | apply pw_below_drewN | apply below_drew1 | refine below_set ?_ GE382.out | refine below_set ?_ GE406.out) | exact HB.out)⟩⟩
          case round =>
            clear H'
            try clear c1
            try clear c2
            try clear p2
            try clear c3
            try clear p3
            try clear q3
            try clear hx3
            try clear c4
            try clear c5
            try clear p6
            try clear c7
            try clear c12
            try clear c12b0
            try clear c13
            try clear c13b0
            try clear c14
            try clear c14b0
            try clear c15
            try clear c15b0
            try clear c16
            try clear c22
            try clear c22b0
            try clear c22b1
            try clear c27
            try clear hcz11_0
            try clear hcz11_1
            try clear hcz11_2
            try clear hcz11_3
            try clear hcz17_0
            try clear hcz17_1
            try clear hcz17_2
            try clear hcz17_3
            try clear hcz19_0
            try clear hcz19_1
            try clear hcz19_2
            try clear hcz19_3
            try clear hcz20_0
            try clear hcz20_1
            try clear hcz20_2
            try clear hcz20_3
            try clear hcz23_0
            try clear hcz23_1
            try clear hcz23_2
            try clear hcz23_3
            try clear hcz28_0
            try clear hcz28_1
            try clear hcz28_10
            try clear hcz28_11
            try clear hcz28_2
            try clear hcz28_3
            try clear hcz28_4
            try clear hcz28_5
            try clear hcz28_6
            try clear hcz28_7
            try clear hcz28_8
            try clear hcz28_9
            try clear hfz11_0
            try clear hfz11_1
            try clear hfz11_2
            try clear hfz11_3
            try clear hfz17_0
            try clear hfz17_1
            try clear hfz17_2
            try clear hfz17_3
            try clear hfz19_0
            try clear hfz19_1
            try clear hfz19_2
            try clear hfz19_3
            try clear hfz20_0
            try clear hfz20_1
            try clear hfz20_2
            try clear hfz20_3
            try clear hfz23_0
            try clear hfz23_1
            try clear hfz23_2
            try clear hfz23_3
            try clear hfz28_0
            try clear hfz28_1
            try clear hfz28_10
            try clear hfz28_11
            try clear hfz28_2
            try clear hfz28_3
            try clear hfz28_4
            try clear hfz28_5
            try clear hfz28_6
            try clear hfz28_7
            try clear hfz28_8
            try clear hfz28_9
            try clear hx383_0
            try clear p2
            try clear p3
            try clear p383
            try clear p6
            try clear q3
            try clear q383
            obtain ⟨x17_2, x18_2, rfl, rfl, HA, HK2, HO_407004, HO_407008, HO_407009, BK382, BK406, HB⟩ := hrel
            cases gk with
            | zero => exact absurd HA.out (by simp [clinkerlaw14_DiskRoom.l1])
            | succ k2 =>
              have H := HA.out
              clear HA
              simp only [clinkerlaw14_DiskRoom.l1] at H
              by_cases c32 : x18_2 < (t391.length : Int)
              · rw [if_pos c32] at H
                have c32b0 : decide (x18_2 < (t391.length : Int)) = true := decide_eq_true c32
                clear c32
                replace H := Option.bind_eq_some_iff.mp H
                obtain ⟨t407, A330, H⟩ := H
                replace H : (if t407 = 0 then (clinkerlaw14_DiskRoom.l1 k2 true (wrap64 (x17_2 + 1)) (wrap64 (x18_2 + 1)) (Int.tmod (wrap64 (a0)) 33) (Int.tmod (wrap64 (a1)) 17) (Int.tmod (wrap64 (a2)) 65) (Int.tmod (wrap64 (a3)) 16) t387 t388 t389 t390 t391 t394 t395 t396 t397 t400 t403 t404) else (clinkerlaw14_DiskRoom.l1 k2 true x17_2 (wrap64 (x18_2 + 1)) (Int.tmod (wrap64 (a0)) 33) (Int.tmod (wrap64 (a1)) 17) (Int.tmod (wrap64 (a2)) 65) (Int.tmod (wrap64 (a3)) 16) t387 t388 t389 t390 t391 t394 t395 t396 t397 t400 t403 t404)) = some r := H
                have A33 := Aside0.mk A330
                clear A330
                by_cases c34 : t407 = 0
                · rw [if_pos c34] at H
                  have c34b0 : (t407 == 0) = true := beq_iff_eq.mpr c34
                  have c34b1 : (t407 != 0) = false := bne_eq_false_iff_eq.mpr c34
                  clear c34
                  have H' := Aside0.mk H
                  clear H
                  have hnb35 := NB406_382.out
                  have hnc35 := NB382_406.out
                  have hcz36_0 : wr.cell? ⟨gb406, 0, none⟩ = some (.int .i64 t387) := (blk_cell BK406.out 0).trans rfl
                  have hcz36_1 : wr.cell? ⟨gb406, 1, none⟩ = some (.int .i64 t388) := (blk_cell BK406.out 1).trans rfl
                  have hcz36_2 : wr.cell? ⟨gb406, 2, none⟩ = some (.int .i64 t389) := (blk_cell BK406.out 2).trans rfl
                  have hcz36_3 : wr.cell? ⟨gb406, 3, none⟩ = some (.int .i64 t390) := (blk_cell BK406.out 3).trans rfl
                  have hcz36_4 : wr.cell? ⟨gb406, 4, none⟩ = some (.slice Ao29 t391.length co29) := (blk_cell BK406.out 4).trans rfl
                  have hcz36_5 : wr.cell? ⟨gb406, 5, none⟩ = some (.bool t394) := (blk_cell BK406.out 5).trans rfl
                  have hcz36_6 : wr.cell? ⟨gb406, 6, none⟩ = some (.bool t395) := (blk_cell BK406.out 6).trans rfl
                  have hcz36_7 : wr.cell? ⟨gb406, 7, none⟩ = some (.int .i64 t396) := (blk_cell BK406.out 7).trans rfl
                  have hcz36_8 : wr.cell? ⟨gb406, 8, none⟩ = some (.slice Ao30 t397.length co30) := (blk_cell BK406.out 8).trans rfl
                  have hcz36_9 : wr.cell? ⟨gb406, 9, none⟩ = some (.slice Ao31 t400.length co31) := (blk_cell BK406.out 9).trans rfl
                  have hcz36_10 : wr.cell? ⟨gb406, 10, none⟩ = some (.int .i64 t403) := (blk_cell BK406.out 10).trans rfl
                  have hcz36_11 : wr.cell? ⟨gb406, 11, none⟩ = some (.int .i64 t404) := (blk_cell BK406.out 11).trans rfl
                  have hfz36_0 := blk_frozen BK406.out 0
                  have hfz36_1 := blk_frozen BK406.out 1
                  have hfz36_2 := blk_frozen BK406.out 2
                  have hfz36_3 := blk_frozen BK406.out 3
                  have hfz36_4 := blk_frozen BK406.out 4
                  have hfz36_5 := blk_frozen BK406.out 5
                  have hfz36_6 := blk_frozen BK406.out 6
                  have hfz36_7 := blk_frozen BK406.out 7
                  have hfz36_8 := blk_frozen BK406.out 8
                  have hfz36_9 := blk_frozen BK406.out 9
                  have hfz36_10 := blk_frozen BK406.out 10
                  have hfz36_11 := blk_frozen BK406.out 11
                  go_wp2_with (first | ((with_reducible refine gate_callee (f := 6) rfl ?_); refine goesL_ (some 87) rfl rfl Try.func6 (by kernel_rfl) rfl #[.agg #[.slice Ao29 t391.length co29, .bool t394, .bool t395, .int .i64 t396], .int .i64 (-1), .int .i64 x18_2] rfl (by (try simp only [List.map_toArray, List.map_cons, List.map_nil]); first | done | rfl | (simp only [List.length_drop, List.length_take]; rfl)) ?_; (with_reducible refine (clinkerref10_State.calls k2 _ _ t391 t394 t395 t396 (-1) x18_2 t407 _ ?side1 ?side2 A33.out).mono ?_); (case side1 => repeat (first | exact (Kd.V_reads' HO_407004.out).2.2 | (with_reducible refine Kd.C_alloc ?_ _) | (with_reducible refine Kd.C_drewN ?_ _) | (with_reducible refine Kd.C_drew ?_))); (case side2 => exact (Kd.V_reads' HO_407004.out).2.1); rintro e w37 ⟨rfl, hb⟩; refine ⟨_, rfl, ?_⟩; have n0_ := Aside0.mk (Kd.V_below (by (with_reducible repeat (first | apply Kd.V_alloc | apply Kd.V_drewN | apply Kd.V_drew)); exact HO_407004.out) hb); have n1_ := Aside0.mk (Kd.R_below (by (with_reducible repeat (first | apply Kd.R_alloc | apply Kd.R_drewN | apply Kd.R_drew)); exact HO_407008.out) hb); have n2_ := Aside0.mk (Kd.R_below (by (with_reducible repeat (first | apply Kd.R_alloc | apply Kd.R_drewN | apply Kd.R_drew)); exact HO_407009.out) hb); have n3_ := Aside0.mk (blk_below (g := gb382) (o := .cells #[.int .i64 (Int.tmod (wrap64 (a0)) 33), .int .i64 (Int.tmod (wrap64 (a1)) 17), .int .i64 (Int.tmod (wrap64 (a2)) 65), .int .i64 (Int.tmod (wrap64 (a3)) 16)] 25 (0, 0)) (by (with_reducible repeat (first | refine blk_drewN ?_ _ | refine blk_drew ?_ | refine blk_alloc ?_ _)); exact BK382.out) hb); have n4_ := Aside0.mk (blk_below (g := gb406) (o := .cells #[.int .i64 t387, .int .i64 t388, .int .i64 t389, .int .i64 t390, .slice Ao29 t391.length co29, .bool t394, .bool t395, .int .i64 t396, .slice Ao30 t397.length co30, .slice Ao31 t400.length co31, .int .i64 t403, .int .i64 t404] 33 (0, 0)) (by (with_reducible repeat (first | refine blk_drewN ?_ _ | refine blk_drew ?_ | refine blk_alloc ?_ _)); exact BK406.out) hb); have n5_ := Aside0.mk (below_step (by repeat (first | (with_reducible first | exact HB.out | apply below_alloc | apply pw_below_drewN | apply below_drew1 | refine below_set ?_ GE382.out | refine below_set ?_ GE406.out) | exact HB.out)) hb); clear HO_407004; clear HO_407008; clear HO_407009; clear BK382; clear BK406; clear HB; have HO_407004 := n0_; have HO_407008 := n1_; have HO_407009 := n2_; have BK382 := n3_; have BK406 := n4_; have HB := n5_; clear n0_ n1_ n2_ n3_ n4_ n5_; (try clear hb); (try clear hb2); (try clear hk); (try clear hi)))
                  go_roundg k2
                  case measure => have := HJ7.out; have := HK2.out; omega
                  case rel => exact ⟨(wrap64 (x17_2 + 1)), (wrap64 (x18_2 + 1)), (by first | rfl | (simp; done) | (simp [*]; done)), (by first | rfl | (simp; done) | (simp [*]; done)), H', ⟨by have := HJ7.out; have := HK2.out; omega⟩, ⟨by (with_reducible repeat (first | apply Kd.V_alloc | apply Kd.V_drewN | apply Kd.V_drew)); exact HO_407004.out⟩, ⟨by (with_reducible repeat (first | apply Kd.R_alloc | apply Kd.R_drewN | apply Kd.R_drew)); exact HO_407008.out⟩, ⟨by (with_reducible repeat (first | apply Kd.R_alloc | apply Kd.R_drewN | apply Kd.R_drew)); exact HO_407009.out⟩, ⟨by (with_reducible repeat (first | refine blk_drewN ?_ _ | refine blk_drew ?_ | refine blk_alloc ?_ _)); exact BK382.out⟩, ⟨by (with_reducible repeat (first | refine blk_drewN ?_ _ | refine blk_drew ?_ | refine blk_alloc ?_ _)); exact BK406.out⟩, ⟨by repeat (first | (with_reducible first | exact HB.out | apply below_alloc | apply pw_below_drewN | apply below_drew1 | refine below_set ?_ GE382.out | refine below_set ?_ GE406.out) | exact HB.out)⟩⟩
                · rw [if_neg c34] at H
                  have c34b0 : (t407 == 0) = false := beq_eq_false_iff_ne.mpr c34
                  have c34b1 : (t407 != 0) = true := bne_iff_ne.mpr c34
                  have H' := Aside0.mk H
                  clear H
                  have hnb38 := NB406_382.out
                  have hnc38 := NB382_406.out
                  have hcz39_0 : wr.cell? ⟨gb406, 0, none⟩ = some (.int .i64 t387) := (blk_cell BK406.out 0).trans rfl
                  have hcz39_1 : wr.cell? ⟨gb406, 1, none⟩ = some (.int .i64 t388) := (blk_cell BK406.out 1).trans rfl
                  have hcz39_2 : wr.cell? ⟨gb406, 2, none⟩ = some (.int .i64 t389) := (blk_cell BK406.out 2).trans rfl
                  have hcz39_3 : wr.cell? ⟨gb406, 3, none⟩ = some (.int .i64 t390) := (blk_cell BK406.out 3).trans rfl
                  have hcz39_4 : wr.cell? ⟨gb406, 4, none⟩ = some (.slice Ao29 t391.length co29) := (blk_cell BK406.out 4).trans rfl
                  have hcz39_5 : wr.cell? ⟨gb406, 5, none⟩ = some (.bool t394) := (blk_cell BK406.out 5).trans rfl
                  have hcz39_6 : wr.cell? ⟨gb406, 6, none⟩ = some (.bool t395) := (blk_cell BK406.out 6).trans rfl
                  have hcz39_7 : wr.cell? ⟨gb406, 7, none⟩ = some (.int .i64 t396) := (blk_cell BK406.out 7).trans rfl
                  have hcz39_8 : wr.cell? ⟨gb406, 8, none⟩ = some (.slice Ao30 t397.length co30) := (blk_cell BK406.out 8).trans rfl
                  have hcz39_9 : wr.cell? ⟨gb406, 9, none⟩ = some (.slice Ao31 t400.length co31) := (blk_cell BK406.out 9).trans rfl
                  have hcz39_10 : wr.cell? ⟨gb406, 10, none⟩ = some (.int .i64 t403) := (blk_cell BK406.out 10).trans rfl
                  have hcz39_11 : wr.cell? ⟨gb406, 11, none⟩ = some (.int .i64 t404) := (blk_cell BK406.out 11).trans rfl
                  have hfz39_0 := blk_frozen BK406.out 0
                  have hfz39_1 := blk_frozen BK406.out 1
                  have hfz39_2 := blk_frozen BK406.out 2
                  have hfz39_3 := blk_frozen BK406.out 3
                  have hfz39_4 := blk_frozen BK406.out 4
                  have hfz39_5 := blk_frozen BK406.out 5
                  have hfz39_6 := blk_frozen BK406.out 6
                  have hfz39_7 := blk_frozen BK406.out 7
                  have hfz39_8 := blk_frozen BK406.out 8
                  have hfz39_9 := blk_frozen BK406.out 9
                  have hfz39_10 := blk_frozen BK406.out 10
                  have hfz39_11 := blk_frozen BK406.out 11
                  go_wp2_with (first | ((with_reducible refine gate_callee (f := 6) rfl ?_); refine goesL_ (some 87) rfl rfl Try.func6 (by kernel_rfl) rfl #[.agg #[.slice Ao29 t391.length co29, .bool t394, .bool t395, .int .i64 t396], .int .i64 (-1), .int .i64 x18_2] rfl (by (try simp only [List.map_toArray, List.map_cons, List.map_nil]); first | done | rfl | (simp only [List.length_drop, List.length_take]; rfl)) ?_; (with_reducible refine (clinkerref10_State.calls k2 _ _ t391 t394 t395 t396 (-1) x18_2 t407 _ ?side1 ?side2 A33.out).mono ?_); (case side1 => repeat (first | exact (Kd.V_reads' HO_407004.out).2.2 | (with_reducible refine Kd.C_alloc ?_ _) | (with_reducible refine Kd.C_drewN ?_ _) | (with_reducible refine Kd.C_drew ?_))); (case side2 => exact (Kd.V_reads' HO_407004.out).2.1); rintro e w40 ⟨rfl, hb⟩; refine ⟨_, rfl, ?_⟩; have n0_ := Aside0.mk (Kd.V_below (by (with_reducible repeat (first | apply Kd.V_alloc | apply Kd.V_drewN | apply Kd.V_drew)); exact HO_407004.out) hb); have n1_ := Aside0.mk (Kd.R_below (by (with_reducible repeat (first | apply Kd.R_alloc | apply Kd.R_drewN | apply Kd.R_drew)); exact HO_407008.out) hb); have n2_ := Aside0.mk (Kd.R_below (by (with_reducible repeat (first | apply Kd.R_alloc | apply Kd.R_drewN | apply Kd.R_drew)); exact HO_407009.out) hb); have n3_ := Aside0.mk (blk_below (g := gb382) (o := .cells #[.int .i64 (Int.tmod (wrap64 (a0)) 33), .int .i64 (Int.tmod (wrap64 (a1)) 17), .int .i64 (Int.tmod (wrap64 (a2)) 65), .int .i64 (Int.tmod (wrap64 (a3)) 16)] 25 (0, 0)) (by (with_reducible repeat (first | refine blk_drewN ?_ _ | refine blk_drew ?_ | refine blk_alloc ?_ _)); exact BK382.out) hb); have n4_ := Aside0.mk (blk_below (g := gb406) (o := .cells #[.int .i64 t387, .int .i64 t388, .int .i64 t389, .int .i64 t390, .slice Ao29 t391.length co29, .bool t394, .bool t395, .int .i64 t396, .slice Ao30 t397.length co30, .slice Ao31 t400.length co31, .int .i64 t403, .int .i64 t404] 33 (0, 0)) (by (with_reducible repeat (first | refine blk_drewN ?_ _ | refine blk_drew ?_ | refine blk_alloc ?_ _)); exact BK406.out) hb); have n5_ := Aside0.mk (below_step (by repeat (first | (with_reducible first | exact HB.out | apply below_alloc | apply pw_below_drewN | apply below_drew1 | refine below_set ?_ GE382.out | refine below_set ?_ GE406.out) | exact HB.out)) hb); clear HO_407004; clear HO_407008; clear HO_407009; clear BK382; clear BK406; clear HB; have HO_407004 := n0_; have HO_407008 := n1_; have HO_407009 := n2_; have BK382 := n3_; have BK406 := n4_; have HB := n5_; clear n0_ n1_ n2_ n3_ n4_ n5_; (try clear hb); (try clear hb2); (try clear hk); (try clear hi)))
                  go_roundg k2
                  case measure => have := HJ7.out; have := HK2.out; omega
                  case rel => exact ⟨(x17_2), (wrap64 (x18_2 + 1)), (by first | rfl | (simp; done) | (simp [*]; done)), (by first | rfl | (simp; done) | (simp [*]; done)), H', ⟨by have := HJ7.out; have := HK2.out; omega⟩, ⟨by (with_reducible repeat (first | apply Kd.V_alloc | apply Kd.V_drewN | apply Kd.V_drew)); exact HO_407004.out⟩, ⟨by (with_reducible repeat (first | apply Kd.R_alloc | apply Kd.R_drewN | apply Kd.R_drew)); exact HO_407008.out⟩, ⟨by (with_reducible repeat (first | apply Kd.R_alloc | apply Kd.R_drewN | apply Kd.R_drew)); exact HO_407009.out⟩, ⟨by (with_reducible repeat (first | refine blk_drewN ?_ _ | refine blk_drew ?_ | refine blk_alloc ?_ _)); exact BK382.out⟩, ⟨by (with_reducible repeat (first | refine blk_drewN ?_ _ | refine blk_drew ?_ | refine blk_alloc ?_ _)); exact BK406.out⟩, ⟨by repeat (first | (with_reducible first | exact HB.out | apply below_alloc | apply pw_below_drewN | apply below_drew1 | refine below_set ?_ GE382.out | refine below_set ?_ GE406.out) | exact HB.out)⟩⟩
              · rw [if_neg c32] at H
                have c32b0 : decide (x18_2 < (t391.length : Int)) = false := decide_eq_false c32
                clear c32
                by_cases c41 : true = true
                · clear c41
                  have H1 : ((disk_Fits.f k2 (Int.tmod (wrap64 (a0)) 33) (Int.tmod (wrap64 (a1)) 17) (Int.tmod (wrap64 (a2)) 65) (Int.tmod (wrap64 (a3)) 16)).bind fun t408 => (if t408 = true then ((disk_Reserve.f k2 t387 t388 t389 t390 t391 t394 t395 t396 t397 t400 t403 t404).bind fun t409 => (some (decide (x17_2 > t409)))) else (some false))) = some r := by first | (rw [if_pos rfl] at H; exact H) | (rw [if_pos trivial] at H; exact H)
                  clear H
                  have H := H1
                  clear H1
                  replace H := Option.bind_eq_some_iff.mp H
                  obtain ⟨t408, A420, H⟩ := H
                  replace H : (if t408 = true then ((disk_Reserve.f k2 t387 t388 t389 t390 t391 t394 t395 t396 t397 t400 t403 t404).bind fun t409 => (some (decide (x17_2 > t409)))) else (some false)) = some r := H
                  have A42 := Aside0.mk A420
                  clear A420
                  by_cases c43 : t408 = true
                  · subst c43
                    have H1 : ((disk_Reserve.f k2 t387 t388 t389 t390 t391 t394 t395 t396 t397 t400 t403 t404).bind fun t409 => (some (decide (x17_2 > t409)))) = some r := by rw [if_pos rfl] at H; exact H
                    clear H
                    have H := H1
                    clear H1
                    replace H := Option.bind_eq_some_iff.mp H
                    obtain ⟨t409, A440, H⟩ := H
                    replace H : (some (decide (x17_2 > t409))) = some r := H
                    have A44 := Aside0.mk A440
                    clear A440
                    obtain rfl := Option.some.inj H
                    have hnb45 := NB406_382.out
                    have hnc45 := NB382_406.out
                    have hcz46_0 : wr.cell? ⟨gb406, 0, none⟩ = some (.int .i64 t387) := (blk_cell BK406.out 0).trans rfl
                    have hcz46_1 : wr.cell? ⟨gb406, 1, none⟩ = some (.int .i64 t388) := (blk_cell BK406.out 1).trans rfl
                    have hcz46_2 : wr.cell? ⟨gb406, 2, none⟩ = some (.int .i64 t389) := (blk_cell BK406.out 2).trans rfl
                    have hcz46_3 : wr.cell? ⟨gb406, 3, none⟩ = some (.int .i64 t390) := (blk_cell BK406.out 3).trans rfl
                    have hcz46_4 : wr.cell? ⟨gb406, 4, none⟩ = some (.slice Ao29 t391.length co29) := (blk_cell BK406.out 4).trans rfl
                    have hcz46_5 : wr.cell? ⟨gb406, 5, none⟩ = some (.bool t394) := (blk_cell BK406.out 5).trans rfl
                    have hcz46_6 : wr.cell? ⟨gb406, 6, none⟩ = some (.bool t395) := (blk_cell BK406.out 6).trans rfl
                    have hcz46_7 : wr.cell? ⟨gb406, 7, none⟩ = some (.int .i64 t396) := (blk_cell BK406.out 7).trans rfl
                    have hcz46_8 : wr.cell? ⟨gb406, 8, none⟩ = some (.slice Ao30 t397.length co30) := (blk_cell BK406.out 8).trans rfl
                    have hcz46_9 : wr.cell? ⟨gb406, 9, none⟩ = some (.slice Ao31 t400.length co31) := (blk_cell BK406.out 9).trans rfl
                    have hcz46_10 : wr.cell? ⟨gb406, 10, none⟩ = some (.int .i64 t403) := (blk_cell BK406.out 10).trans rfl
                    have hcz46_11 : wr.cell? ⟨gb406, 11, none⟩ = some (.int .i64 t404) := (blk_cell BK406.out 11).trans rfl
                    have hfz46_0 := blk_frozen BK406.out 0
                    have hfz46_1 := blk_frozen BK406.out 1
                    have hfz46_2 := blk_frozen BK406.out 2
                    have hfz46_3 := blk_frozen BK406.out 3
                    have hfz46_4 := blk_frozen BK406.out 4
                    have hfz46_5 := blk_frozen BK406.out 5
                    have hfz46_6 := blk_frozen BK406.out 6
                    have hfz46_7 := blk_frozen BK406.out 7
                    have hfz46_8 := blk_frozen BK406.out 8
                    have hfz46_9 := blk_frozen BK406.out 9
                    have hfz46_10 := blk_frozen BK406.out 10
                    have hfz46_11 := blk_frozen BK406.out 11
                    have hcz47_0 : wr.cell? ⟨gb382, 0, none⟩ = some (.int .i64 (Int.tmod (wrap64 (a0)) 33)) := (blk_cell BK382.out 0).trans rfl
                    have hcz47_1 : wr.cell? ⟨gb382, 1, none⟩ = some (.int .i64 (Int.tmod (wrap64 (a1)) 17)) := (blk_cell BK382.out 1).trans rfl
                    have hcz47_2 : wr.cell? ⟨gb382, 2, none⟩ = some (.int .i64 (Int.tmod (wrap64 (a2)) 65)) := (blk_cell BK382.out 2).trans rfl
                    have hcz47_3 : wr.cell? ⟨gb382, 3, none⟩ = some (.int .i64 (Int.tmod (wrap64 (a3)) 16)) := (blk_cell BK382.out 3).trans rfl
                    have hfz47_0 := blk_frozen BK382.out 0
                    have hfz47_1 := blk_frozen BK382.out 1
                    have hfz47_2 := blk_frozen BK382.out 2
                    have hfz47_3 := blk_frozen BK382.out 3
                    go_wp2_with (first | (go_at_call 7; (with_reducible refine (disk_Fits.calls k2 (Int.tmod (wrap64 (a0)) 33) (Int.tmod (wrap64 (a1)) 17) (Int.tmod (wrap64 (a2)) 65) (Int.tmod (wrap64 (a3)) 16) true _ A42.out).mono ?_); rintro e w48 ⟨rfl, hb⟩; have n0_ := Aside0.mk (Kd.V_below (by (with_reducible repeat (first | apply Kd.V_alloc | apply Kd.V_drewN | apply Kd.V_drew)); exact HO_407004.out) hb); have n1_ := Aside0.mk (Kd.R_below (by (with_reducible repeat (first | apply Kd.R_alloc | apply Kd.R_drewN | apply Kd.R_drew)); exact HO_407008.out) hb); have n2_ := Aside0.mk (Kd.R_below (by (with_reducible repeat (first | apply Kd.R_alloc | apply Kd.R_drewN | apply Kd.R_drew)); exact HO_407009.out) hb); have n3_ := Aside0.mk (blk_below (g := gb382) (o := .cells #[.int .i64 (Int.tmod (wrap64 (a0)) 33), .int .i64 (Int.tmod (wrap64 (a1)) 17), .int .i64 (Int.tmod (wrap64 (a2)) 65), .int .i64 (Int.tmod (wrap64 (a3)) 16)] 25 (0, 0)) (by (with_reducible repeat (first | refine blk_drewN ?_ _ | refine blk_drew ?_ | refine blk_alloc ?_ _)); exact BK382.out) hb); have n4_ := Aside0.mk (blk_below (g := gb406) (o := .cells #[.int .i64 t387, .int .i64 t388, .int .i64 t389, .int .i64 t390, .slice Ao29 t391.length co29, .bool t394, .bool t395, .int .i64 t396, .slice Ao30 t397.length co30, .slice Ao31 t400.length co31, .int .i64 t403, .int .i64 t404] 33 (0, 0)) (by (with_reducible repeat (first | refine blk_drewN ?_ _ | refine blk_drew ?_ | refine blk_alloc ?_ _)); exact BK406.out) hb); have n5_ := Aside0.mk (below_step (by repeat (first | (with_reducible first | exact HB.out | apply below_alloc | apply pw_below_drewN | apply below_drew1 | refine below_set ?_ GE382.out | refine below_set ?_ GE406.out) | exact HB.out)) hb); clear HO_407004; clear HO_407008; clear HO_407009; clear BK382; clear BK406; clear HB; have HO_407004 := n0_; have HO_407008 := n1_; have HO_407009 := n2_; have BK382 := n3_; have BK406 := n4_; have HB := n5_; clear n0_ n1_ n2_ n3_ n4_ n5_; (try clear hb); (try clear hb2); (try clear hk); (try clear hi); have hcz49_0 : w48.cell? ⟨gb406, 0, none⟩ = some (.int .i64 t387) := (blk_cell BK406.out 0).trans rfl; have hcz49_1 : w48.cell? ⟨gb406, 1, none⟩ = some (.int .i64 t388) := (blk_cell BK406.out 1).trans rfl; have hcz49_2 : w48.cell? ⟨gb406, 2, none⟩ = some (.int .i64 t389) := (blk_cell BK406.out 2).trans rfl; have hcz49_3 : w48.cell? ⟨gb406, 3, none⟩ = some (.int .i64 t390) := (blk_cell BK406.out 3).trans rfl; have hcz49_4 : w48.cell? ⟨gb406, 4, none⟩ = some (.slice Ao29 t391.length co29) := (blk_cell BK406.out 4).trans rfl; have hcz49_5 : w48.cell? ⟨gb406, 5, none⟩ = some (.bool t394) := (blk_cell BK406.out 5).trans rfl; have hcz49_6 : w48.cell? ⟨gb406, 6, none⟩ = some (.bool t395) := (blk_cell BK406.out 6).trans rfl; have hcz49_7 : w48.cell? ⟨gb406, 7, none⟩ = some (.int .i64 t396) := (blk_cell BK406.out 7).trans rfl; have hcz49_8 : w48.cell? ⟨gb406, 8, none⟩ = some (.slice Ao30 t397.length co30) := (blk_cell BK406.out 8).trans rfl; have hcz49_9 : w48.cell? ⟨gb406, 9, none⟩ = some (.slice Ao31 t400.length co31) := (blk_cell BK406.out 9).trans rfl; have hcz49_10 : w48.cell? ⟨gb406, 10, none⟩ = some (.int .i64 t403) := (blk_cell BK406.out 10).trans rfl; have hcz49_11 : w48.cell? ⟨gb406, 11, none⟩ = some (.int .i64 t404) := (blk_cell BK406.out 11).trans rfl; have hfz49_0 := blk_frozen BK406.out 0; have hfz49_1 := blk_frozen BK406.out 1; have hfz49_2 := blk_frozen BK406.out 2; have hfz49_3 := blk_frozen BK406.out 3; have hfz49_4 := blk_frozen BK406.out 4; have hfz49_5 := blk_frozen BK406.out 5; have hfz49_6 := blk_frozen BK406.out 6; have hfz49_7 := blk_frozen BK406.out 7; have hfz49_8 := blk_frozen BK406.out 8; have hfz49_9 := blk_frozen BK406.out 9; have hfz49_10 := blk_frozen BK406.out 10; have hfz49_11 := blk_frozen BK406.out 11) | (go_at_call 8; (with_reducible refine (disk_Reserve.calls k2 t387 t388 t389 t390 _ _ t391 t394 t395 t396 _ _ t397 _ _ t400 t403 t404 t409 _ ?side1 ?side2 ?side3 ?side4 ?side5 ?side6 A44.out).mono ?_); (case side1 => repeat (first | exact (Kd.V_reads' HO_407004.out).2.2 | (with_reducible refine Kd.C_alloc ?_ _) | (with_reducible refine Kd.C_drewN ?_ _) | (with_reducible refine Kd.C_drew ?_))); (case side2 => exact (Kd.V_reads' HO_407004.out).2.1); (case side3 => repeat (first | exact (Kd.R_reads' HO_407008.out).2.2 | (with_reducible refine Kd.C_alloc ?_ _) | (with_reducible refine Kd.C_drewN ?_ _) | (with_reducible refine Kd.C_drew ?_))); (case side4 => exact (Kd.R_reads' HO_407008.out).2.1); (case side5 => repeat (first | exact (Kd.R_reads' HO_407009.out).2.2 | (with_reducible refine Kd.C_alloc ?_ _) | (with_reducible refine Kd.C_drewN ?_ _) | (with_reducible refine Kd.C_drew ?_))); (case side6 => exact (Kd.R_reads' HO_407009.out).2.1); rintro e w50 ⟨rfl, hb⟩; have n0_ := Aside0.mk (Kd.V_below (by (with_reducible repeat (first | apply Kd.V_alloc | apply Kd.V_drewN | apply Kd.V_drew)); exact HO_407004.out) hb); have n1_ := Aside0.mk (Kd.R_below (by (with_reducible repeat (first | apply Kd.R_alloc | apply Kd.R_drewN | apply Kd.R_drew)); exact HO_407008.out) hb); have n2_ := Aside0.mk (Kd.R_below (by (with_reducible repeat (first | apply Kd.R_alloc | apply Kd.R_drewN | apply Kd.R_drew)); exact HO_407009.out) hb); have n3_ := Aside0.mk (blk_below (g := gb382) (o := .cells #[.int .i64 (Int.tmod (wrap64 (a0)) 33), .int .i64 (Int.tmod (wrap64 (a1)) 17), .int .i64 (Int.tmod (wrap64 (a2)) 65), .int .i64 (Int.tmod (wrap64 (a3)) 16)] 25 (0, 0)) (by (with_reducible repeat (first | refine blk_drewN ?_ _ | refine blk_drew ?_ | refine blk_alloc ?_ _)); exact BK382.out) hb); have n4_ := Aside0.mk (blk_below (g := gb406) (o := .cells #[.int .i64 t387, .int .i64 t388, .int .i64 t389, .int .i64 t390, .slice Ao29 t391.length co29, .bool t394, .bool t395, .int .i64 t396, .slice Ao30 t397.length co30, .slice Ao31 t400.length co31, .int .i64 t403, .int .i64 t404] 33 (0, 0)) (by (with_reducible repeat (first | refine blk_drewN ?_ _ | refine blk_drew ?_ | refine blk_alloc ?_ _)); exact BK406.out) hb); have n5_ := Aside0.mk (below_step (by repeat (first | (with_reducible first | exact HB.out | apply below_alloc | apply pw_below_drewN | apply below_drew1 | refine below_set ?_ GE382.out | refine below_set ?_ GE406.out) | exact HB.out)) hb); clear HO_407004; clear HO_407008; clear HO_407009; clear BK382; clear BK406; clear HB; have HO_407004 := n0_; have HO_407008 := n1_; have HO_407009 := n2_; have BK382 := n3_; have BK406 := n4_; have HB := n5_; clear n0_ n1_ n2_ n3_ n4_ n5_; (try clear hb); (try clear hb2); (try clear hk); (try clear hi)))
                    go_ret
                    exact ⟨by first | rfl | (simp [errW_none, errW_some] <;> rfl) | (simp [*, errW_none, errW_some] <;> rfl), by repeat (first | (with_reducible first | exact HB.out | apply below_alloc | apply pw_below_drewN | apply below_drew1 | refine below_set ?_ GE382.out | refine below_set ?_ GE406.out) | exact HB.out)⟩
                  · replace c43 := Bool.eq_false_iff.mpr c43
                    subst c43
                    have H1 : (some false) = some r := by rw [if_neg (show ¬ (false = true) by decide)] at H; exact H
                    clear H
                    have H := H1
                    clear H1
                    obtain rfl := Option.some.inj H
                    have hnb51 := NB406_382.out
                    have hnc51 := NB382_406.out
                    have hcz52_0 : wr.cell? ⟨gb406, 0, none⟩ = some (.int .i64 t387) := (blk_cell BK406.out 0).trans rfl
                    have hcz52_1 : wr.cell? ⟨gb406, 1, none⟩ = some (.int .i64 t388) := (blk_cell BK406.out 1).trans rfl
                    have hcz52_2 : wr.cell? ⟨gb406, 2, none⟩ = some (.int .i64 t389) := (blk_cell BK406.out 2).trans rfl
                    have hcz52_3 : wr.cell? ⟨gb406, 3, none⟩ = some (.int .i64 t390) := (blk_cell BK406.out 3).trans rfl
                    have hcz52_4 : wr.cell? ⟨gb406, 4, none⟩ = some (.slice Ao29 t391.length co29) := (blk_cell BK406.out 4).trans rfl
                    have hcz52_5 : wr.cell? ⟨gb406, 5, none⟩ = some (.bool t394) := (blk_cell BK406.out 5).trans rfl
                    have hcz52_6 : wr.cell? ⟨gb406, 6, none⟩ = some (.bool t395) := (blk_cell BK406.out 6).trans rfl
                    have hcz52_7 : wr.cell? ⟨gb406, 7, none⟩ = some (.int .i64 t396) := (blk_cell BK406.out 7).trans rfl
                    have hcz52_8 : wr.cell? ⟨gb406, 8, none⟩ = some (.slice Ao30 t397.length co30) := (blk_cell BK406.out 8).trans rfl
                    have hcz52_9 : wr.cell? ⟨gb406, 9, none⟩ = some (.slice Ao31 t400.length co31) := (blk_cell BK406.out 9).trans rfl
                    have hcz52_10 : wr.cell? ⟨gb406, 10, none⟩ = some (.int .i64 t403) := (blk_cell BK406.out 10).trans rfl
                    have hcz52_11 : wr.cell? ⟨gb406, 11, none⟩ = some (.int .i64 t404) := (blk_cell BK406.out 11).trans rfl
                    have hfz52_0 := blk_frozen BK406.out 0
                    have hfz52_1 := blk_frozen BK406.out 1
                    have hfz52_2 := blk_frozen BK406.out 2
                    have hfz52_3 := blk_frozen BK406.out 3
                    have hfz52_4 := blk_frozen BK406.out 4
                    have hfz52_5 := blk_frozen BK406.out 5
                    have hfz52_6 := blk_frozen BK406.out 6
                    have hfz52_7 := blk_frozen BK406.out 7
                    have hfz52_8 := blk_frozen BK406.out 8
                    have hfz52_9 := blk_frozen BK406.out 9
                    have hfz52_10 := blk_frozen BK406.out 10
                    have hfz52_11 := blk_frozen BK406.out 11
                    have hcz53_0 : wr.cell? ⟨gb382, 0, none⟩ = some (.int .i64 (Int.tmod (wrap64 (a0)) 33)) := (blk_cell BK382.out 0).trans rfl
                    have hcz53_1 : wr.cell? ⟨gb382, 1, none⟩ = some (.int .i64 (Int.tmod (wrap64 (a1)) 17)) := (blk_cell BK382.out 1).trans rfl
                    have hcz53_2 : wr.cell? ⟨gb382, 2, none⟩ = some (.int .i64 (Int.tmod (wrap64 (a2)) 65)) := (blk_cell BK382.out 2).trans rfl
                    have hcz53_3 : wr.cell? ⟨gb382, 3, none⟩ = some (.int .i64 (Int.tmod (wrap64 (a3)) 16)) := (blk_cell BK382.out 3).trans rfl
                    have hfz53_0 := blk_frozen BK382.out 0
                    have hfz53_1 := blk_frozen BK382.out 1
                    have hfz53_2 := blk_frozen BK382.out 2
                    have hfz53_3 := blk_frozen BK382.out 3
                    go_wp2_with (first | (go_at_call 7; (with_reducible refine (disk_Fits.calls k2 (Int.tmod (wrap64 (a0)) 33) (Int.tmod (wrap64 (a1)) 17) (Int.tmod (wrap64 (a2)) 65) (Int.tmod (wrap64 (a3)) 16) false _ A42.out).mono ?_); rintro e w54 ⟨rfl, hb⟩; have n0_ := Aside0.mk (Kd.V_below (by (with_reducible repeat (first | apply Kd.V_alloc | apply Kd.V_drewN | apply Kd.V_drew)); exact HO_407004.out) hb); have n1_ := Aside0.mk (Kd.R_below (by (with_reducible repeat (first | apply Kd.R_alloc | apply Kd.R_drewN | apply Kd.R_drew)); exact HO_407008.out) hb); have n2_ := Aside0.mk (Kd.R_below (by (with_reducible repeat (first | apply Kd.R_alloc | apply Kd.R_drewN | apply Kd.R_drew)); exact HO_407009.out) hb); have n3_ := Aside0.mk (blk_below (g := gb382) (o := .cells #[.int .i64 (Int.tmod (wrap64 (a0)) 33), .int .i64 (Int.tmod (wrap64 (a1)) 17), .int .i64 (Int.tmod (wrap64 (a2)) 65), .int .i64 (Int.tmod (wrap64 (a3)) 16)] 25 (0, 0)) (by (with_reducible repeat (first | refine blk_drewN ?_ _ | refine blk_drew ?_ | refine blk_alloc ?_ _)); exact BK382.out) hb); have n4_ := Aside0.mk (blk_below (g := gb406) (o := .cells #[.int .i64 t387, .int .i64 t388, .int .i64 t389, .int .i64 t390, .slice Ao29 t391.length co29, .bool t394, .bool t395, .int .i64 t396, .slice Ao30 t397.length co30, .slice Ao31 t400.length co31, .int .i64 t403, .int .i64 t404] 33 (0, 0)) (by (with_reducible repeat (first | refine blk_drewN ?_ _ | refine blk_drew ?_ | refine blk_alloc ?_ _)); exact BK406.out) hb); have n5_ := Aside0.mk (below_step (by repeat (first | (with_reducible first | exact HB.out | apply below_alloc | apply pw_below_drewN | apply below_drew1 | refine below_set ?_ GE382.out | refine below_set ?_ GE406.out) | exact HB.out)) hb); clear HO_407004; clear HO_407008; clear HO_407009; clear BK382; clear BK406; clear HB; have HO_407004 := n0_; have HO_407008 := n1_; have HO_407009 := n2_; have BK382 := n3_; have BK406 := n4_; have HB := n5_; clear n0_ n1_ n2_ n3_ n4_ n5_; (try clear hb); (try clear hb2); (try clear hk); (try clear hi)))
                    go_ret
                    exact ⟨by first | rfl | (simp [errW_none, errW_some] <;> rfl) | (simp [*, errW_none, errW_some] <;> rfl), by repeat (first | (with_reducible first | exact HB.out | apply below_alloc | apply pw_below_drewN | apply below_drew1 | refine below_set ?_ GE382.out | refine below_set ?_ GE406.out) | exact HB.out)⟩
                · exact absurd rfl c41
        · rw [if_neg c22] at H
          have c22b0 : (t405 == 0) = false := beq_eq_false_iff_ne.mpr c22
          have c22b1 : (t405 != 0) = true := bne_iff_ne.mpr c22
          by_cases c57 : true = true
          · clear c57
            have H1 : (some ((t391.length : Int) == 0)) = some r := by first | (rw [if_pos rfl] at H; exact H) | (rw [if_pos trivial] at H; exact H)
            clear H
            have H := H1
            clear H1
            obtain rfl := Option.some.inj H
            have hcz58_0 : wc.cell? ⟨gb382, 0, none⟩ = some (.int .i64 (Int.tmod (wrap64 (a0)) 33)) := (blk_cell BK382.out 0).trans rfl
            have hcz58_1 : wc.cell? ⟨gb382, 1, none⟩ = some (.int .i64 (Int.tmod (wrap64 (a1)) 17)) := (blk_cell BK382.out 1).trans rfl
            have hcz58_2 : wc.cell? ⟨gb382, 2, none⟩ = some (.int .i64 (Int.tmod (wrap64 (a2)) 65)) := (blk_cell BK382.out 2).trans rfl
            have hcz58_3 : wc.cell? ⟨gb382, 3, none⟩ = some (.int .i64 (Int.tmod (wrap64 (a3)) 16)) := (blk_cell BK382.out 3).trans rfl
            have hfz58_0 := blk_frozen BK382.out 0
            have hfz58_1 := blk_frozen BK382.out 1
            have hfz58_2 := blk_frozen BK382.out 2
            have hfz58_3 := blk_frozen BK382.out 3
            obtain ⟨Ao59, co59, eo59⟩ := Kd.R_slice HO_13.out
            subst eo59
            go_wp2_with (first | ((with_reducible refine gate_callee (f := 5) rfl ?_); refine goesL_ (some 63) rfl rfl Try.func5 (by kernel_rfl) rfl #[.agg #[.int .i64 (Int.tmod (wrap64 (a0)) 33), .int .i64 (Int.tmod (wrap64 (a1)) 17), .int .i64 (Int.tmod (wrap64 (a2)) 65), .int .i64 (Int.tmod (wrap64 (a3)) 16)], .slice Ao59 x13_7.length co59] rfl (by (try simp only [List.map_toArray, List.map_cons, List.map_nil]); first | done | rfl | (simp only [List.length_drop, List.length_take]; rfl)) ?_; (with_reducible refine (disk_Format.calls kj7 (Int.tmod (wrap64 (a0)) 33) (Int.tmod (wrap64 (a1)) 17) (Int.tmod (wrap64 (a2)) 65) (Int.tmod (wrap64 (a3)) 16) _ _ x13_7 t387 t388 t389 t390 t391 t394 t395 t396 t397 t400 t403 t404 t405 _ ?side1 ?side2 A21.out).mono ?_); (case side1 => repeat (first | exact (Kd.R_reads' HO_13.out).2.2 | (with_reducible refine Kd.C_alloc ?_ _) | (with_reducible refine Kd.C_drewN ?_ _) | (with_reducible refine Kd.C_drew ?_))); (case side2 => exact (Kd.R_reads' HO_13.out).2.1); rintro e w60 ⟨v392, v398, v401, rfl, ho0, ho1, ho2, hb⟩; refine ⟨_, rfl, ?_⟩; have n0_ := Aside0.mk (Kd.R_mono (Kd.R_told (Kd.R_told (Kd.R_old (by (with_reducible repeat (first | apply Kd.R_alloc | apply Kd.R_drewN | apply Kd.R_drew)); exact HO_13.out) hb) (Kd.R_base ho1)) (Kd.R_base ho2)) (fun _ h_ => h_.1)); have n1_ := Aside0.mk (Kd.V_lower (Kd.V_mono (ok' := fun k_ => some k_ ≠ (v398 : Value).ownBlock ∧ some k_ ≠ (v401 : Value).ownBlock ∧ some k_ ≠ (.slice Ao59 x13_7.length co59 : Value).ownBlock ∧ k_ ≠ gb382) ho0 (fun k_ hk_ => ⟨hk_.2.1, hk_.2.2, (Kd.fresh' (Kd.R_lt (by (with_reducible repeat (first | apply Kd.R_alloc | apply Kd.R_drewN | apply Kd.R_drew)); exact HO_13.out)) k_ hk_.1), (Kd.freshB (g := gb382) (o := .cells #[.int .i64 (Int.tmod (wrap64 (a0)) 33), .int .i64 (Int.tmod (wrap64 (a1)) 17), .int .i64 (Int.tmod (wrap64 (a2)) 65), .int .i64 (Int.tmod (wrap64 (a3)) 16)] 25 (0, 0)) (by (with_reducible repeat (first | refine blk_drewN ?_ _ | refine blk_drew ?_ | refine blk_alloc ?_ _)); exact BK382.out) k_ hk_.1)⟩)) (below_size (by repeat (first | (with_reducible first | exact HB.out | apply below_alloc | apply pw_below_drewN | apply below_drew1 | refine below_set ?_ GE382.out) | exact HB.out)))); have n2_ := Aside0.mk (Kd.R_lower (Kd.R_new' (Kd.R_mono (ok' := fun k_ => some k_ ≠ (v401 : Value).ownBlock) ho1 (fun _ hk_ => hk_.2)) (Kd.R_lt (by (with_reducible repeat (first | apply Kd.R_alloc | apply Kd.R_drewN | apply Kd.R_drew)); exact HO_13.out))) (below_size (by repeat (first | (with_reducible first | exact HB.out | apply below_alloc | apply pw_below_drewN | apply below_drew1 | refine below_set ?_ GE382.out) | exact HB.out)))); have n3_ := Aside0.mk (Kd.R_lower (Kd.R_new' (Kd.R_mono (ok' := fun k_ => some k_ ≠ (v398 : Value).ownBlock) ho2 (fun _ hk_ => hk_.2)) (Kd.R_lt (by (with_reducible repeat (first | apply Kd.R_alloc | apply Kd.R_drewN | apply Kd.R_drew)); exact HO_13.out))) (below_size (by repeat (first | (with_reducible first | exact HB.out | apply below_alloc | apply pw_below_drewN | apply below_drew1 | refine below_set ?_ GE382.out) | exact HB.out)))); have n4_ := Aside0.mk (blk_below (g := gb382) (o := .cells #[.int .i64 (Int.tmod (wrap64 (a0)) 33), .int .i64 (Int.tmod (wrap64 (a1)) 17), .int .i64 (Int.tmod (wrap64 (a2)) 65), .int .i64 (Int.tmod (wrap64 (a3)) 16)] 25 (0, 0)) (by (with_reducible repeat (first | refine blk_drewN ?_ _ | refine blk_drew ?_ | refine blk_alloc ?_ _)); exact BK382.out) hb); have n5_ := Aside0.mk (below_step (by repeat (first | (with_reducible first | exact HB.out | apply below_alloc | apply pw_below_drewN | apply below_drew1 | refine below_set ?_ GE382.out) | exact HB.out)) hb); clear HO_13; clear BK382; clear HB; have HO_13 := n0_; have HO393 := n1_; have HO399 := n2_; have HO402 := n3_; have BK382 := n4_; have HB := n5_; clear n0_ n1_ n2_ n3_ n4_ n5_; (try clear hb); (try clear hb2); (try clear hk); (try clear hi); (try clear ho0); (try clear ho1); (try clear ho2)) | ((with_reducible refine gate_dst (N := 15) rfl ?_); (try (refine gate_guard (by rfl) ?_; dsimp only)); refine box_event ?hg (N := 15) ?hd (cs := #[.int .i64 0, .int .i64 0, .int .i64 0, .int .i64 0, .slice none 0 0, .bool false, .bool false, .int .i64 0, .slice none 0 0, .slice none 0 0, .int .i64 0, .int .i64 0]) (t := 33) ?hr ?_; (case hd => rfl); (case hg => rfl); (case hr => first | (go_simp; done) | (go_simp; rfl)); intro gb406 hg w61 hbox hb; have n0_ := Aside0.mk (Kd.R_below (by (with_reducible repeat (first | apply Kd.R_alloc | apply Kd.R_drewN | apply Kd.R_drew)); exact HO_13.out) hb); have n1_ := Aside0.mk (Kd.V_below (Kd.V_elderB (by (with_reducible repeat (first | apply Kd.V_alloc | apply Kd.V_drewN | apply Kd.V_drew)); exact HO393.out) gb406 (Nat.le_of_eq hg.symm)) hb); have n2_ := Aside0.mk (Kd.R_below (by (with_reducible repeat (first | apply Kd.R_alloc | apply Kd.R_drewN | apply Kd.R_drew)); exact HO399.out) hb); have n3_ := Aside0.mk (Kd.R_below (by (with_reducible repeat (first | apply Kd.R_alloc | apply Kd.R_drewN | apply Kd.R_drew)); exact HO402.out) hb); have n4_ := Aside0.mk (blk_below (g := gb382) (o := .cells #[.int .i64 (Int.tmod (wrap64 (a0)) 33), .int .i64 (Int.tmod (wrap64 (a1)) 17), .int .i64 (Int.tmod (wrap64 (a2)) 65), .int .i64 (Int.tmod (wrap64 (a3)) 16)] 25 (0, 0)) (by (with_reducible repeat (first | refine blk_drewN ?_ _ | refine blk_drew ?_ | refine blk_alloc ?_ _)); exact BK382.out) hb); have n5_ := Aside0.mk (below_step (by repeat (first | (with_reducible first | exact HB.out | apply below_alloc | apply pw_below_drewN | apply below_drew1 | refine below_set ?_ GE382.out) | exact HB.out)) hb); have n6_ := Aside0.mk (hbox); have n7_ := Aside0.mk ((by rw [hg]; exact (below_size (by repeat (first | (with_reducible first | exact HB.out | apply below_alloc | apply pw_below_drewN | apply below_drew1 | refine below_set ?_ GE382.out) | exact HB.out))) : w.heap.size ≤ gb406)); have n8_ := Aside0.mk ((by rw [hg]; exact (below_size (by repeat (first | (with_reducible first | exact HB.out | apply below_alloc | apply pw_below_drewN | apply below_drew1 | refine below_set ?_ GE382.out) | exact HB.out))) : w.heap.size ≤ gb406)); have n9_ := Aside0.mk ((by rw [hg]; exact Nat.ne_of_lt (blk_lt (g := gb382) (o := .cells #[.int .i64 (Int.tmod (wrap64 (a0)) 33), .int .i64 (Int.tmod (wrap64 (a1)) 17), .int .i64 (Int.tmod (wrap64 (a2)) 65), .int .i64 (Int.tmod (wrap64 (a3)) 16)] 25 (0, 0)) (by (with_reducible repeat (first | refine blk_drewN ?_ _ | refine blk_drew ?_ | refine blk_alloc ?_ _)); exact BK382.out)) : gb382 ≠ gb406)); have n10_ := Aside0.mk ((by rw [hg]; exact Nat.ne_of_gt (blk_lt (g := gb382) (o := .cells #[.int .i64 (Int.tmod (wrap64 (a0)) 33), .int .i64 (Int.tmod (wrap64 (a1)) 17), .int .i64 (Int.tmod (wrap64 (a2)) 65), .int .i64 (Int.tmod (wrap64 (a3)) 16)] 25 (0, 0)) (by (with_reducible repeat (first | refine blk_drewN ?_ _ | refine blk_drew ?_ | refine blk_alloc ?_ _)); exact BK382.out)) : gb406 ≠ gb382)); clear HO_13; clear HO393; clear HO399; clear HO402; clear BK382; clear HB; have HO_13 := n0_; have HO393 := n1_; have HO399 := n2_; have HO402 := n3_; have BK382 := n4_; have HB := n5_; have BK406 := n6_; have GW406 := n7_; have GE406 := n8_; have NB382_406 := n9_; have NB406_382 := n10_; clear n0_ n1_ n2_ n3_ n4_ n5_ n6_ n7_ n8_ n9_ n10_; clear hb hbox hg; have hnb62 := NB406_382.out; have hnc62 := NB382_406.out; have hcz63_0 : w61.cell? ⟨gb406, 0, none⟩ = some (.int .i64 0) := (blk_cell BK406.out 0).trans rfl; have hcz63_1 : w61.cell? ⟨gb406, 1, none⟩ = some (.int .i64 0) := (blk_cell BK406.out 1).trans rfl; have hcz63_2 : w61.cell? ⟨gb406, 2, none⟩ = some (.int .i64 0) := (blk_cell BK406.out 2).trans rfl; have hcz63_3 : w61.cell? ⟨gb406, 3, none⟩ = some (.int .i64 0) := (blk_cell BK406.out 3).trans rfl; have hcz63_4 : w61.cell? ⟨gb406, 4, none⟩ = some (.slice none 0 0) := (blk_cell BK406.out 4).trans rfl; have hcz63_5 : w61.cell? ⟨gb406, 5, none⟩ = some (.bool false) := (blk_cell BK406.out 5).trans rfl; have hcz63_6 : w61.cell? ⟨gb406, 6, none⟩ = some (.bool false) := (blk_cell BK406.out 6).trans rfl; have hcz63_7 : w61.cell? ⟨gb406, 7, none⟩ = some (.int .i64 0) := (blk_cell BK406.out 7).trans rfl; have hcz63_8 : w61.cell? ⟨gb406, 8, none⟩ = some (.slice none 0 0) := (blk_cell BK406.out 8).trans rfl; have hcz63_9 : w61.cell? ⟨gb406, 9, none⟩ = some (.slice none 0 0) := (blk_cell BK406.out 9).trans rfl; have hcz63_10 : w61.cell? ⟨gb406, 10, none⟩ = some (.int .i64 0) := (blk_cell BK406.out 10).trans rfl; have hcz63_11 : w61.cell? ⟨gb406, 11, none⟩ = some (.int .i64 0) := (blk_cell BK406.out 11).trans rfl; have hfz63_0 := blk_frozen BK406.out 0; have hfz63_1 := blk_frozen BK406.out 1; have hfz63_2 := blk_frozen BK406.out 2; have hfz63_3 := blk_frozen BK406.out 3; have hfz63_4 := blk_frozen BK406.out 4; have hfz63_5 := blk_frozen BK406.out 5; have hfz63_6 := blk_frozen BK406.out 6; have hfz63_7 := blk_frozen BK406.out 7; have hfz63_8 := blk_frozen BK406.out 8; have hfz63_9 := blk_frozen BK406.out 9; have hfz63_10 := blk_frozen BK406.out 10; have hfz63_11 := blk_frozen BK406.out 11; obtain ⟨Ao64, co64, eo64⟩ := Kd.V_slice HO393.out; subst eo64; obtain ⟨Ao65, co65, eo65⟩ := Kd.R_slice HO399.out; subst eo65; obtain ⟨Ao66, co66, eo66⟩ := Kd.R_slice HO402.out; subst eo66))
            go_ret
            exact ⟨by first | rfl | (simp [errW_none, errW_some] <;> rfl) | (simp [*, errW_none, errW_some] <;> rfl), by repeat (first | (with_reducible first | exact HB.out | apply below_alloc | apply pw_below_drewN | apply below_drew1 | refine below_set ?_ GE382.out | refine below_set ?_ GE406.out) | exact HB.out)⟩
          · exact absurd rfl c57
  · replace c7 := Bool.eq_false_iff.mpr c7
    subst c7
    have H1 : (some false) = some r := by rw [if_neg (show ¬ (false = true) by decide)] at H; exact H
    clear H
    have H := H1
    clear H1
    obtain rfl := Option.some.inj H
    go_enter Try.func3, Try.ntmps3
    go_wp2_with (first | ((with_reducible refine gate_callee (f := 4) rfl ?_); refine goesL_ (some 19) rfl rfl Try.func4 (by kernel_rfl) rfl #[] rfl (by (try simp only [List.map_toArray, List.map_cons, List.map_nil]); first | done | rfl | (simp only [List.length_drop, List.length_take]; rfl)) ?_; (with_reducible refine (clinkerlaw14_awake.calls k  false _ A6.out).mono ?_); rintro e w76 ⟨rfl, hb⟩; refine ⟨_, rfl, ?_⟩; have n0_ := Aside0.mk (below_step (by repeat (first | (with_reducible first | exact HB.out | apply below_alloc | apply pw_below_drewN | apply below_drew1) | exact HB.out)) hb); clear HB; have HB := n0_; clear n0_; (try clear hb); (try clear hb2); (try clear hk); (try clear hi)))
    go_ret
    exact ⟨by first | rfl | (simp [errW_none, errW_some] <;> rfl) | (simp [*, errW_none, errW_some] <;> rfl), by repeat (first | (with_reducible first | exact HB.out | apply below_alloc | apply pw_below_drewN | apply below_drew1) | exact HB.out)⟩

/-- THE ONE PURE STATEMENT of clinkerlaw14_DiskRoom: yours. -/
def clinkerlaw14_DiskRoom.Pure : Prop := ∀ (a0 : Int) (a1 : Int) (a2 : Int) (a3 : Int) (l4 : List Int), (Lit.int .u8 a0).wf = true → (Lit.int .u8 a1).wf = true → (Lit.int .u8 a2).wf = true → (Lit.int .u8 a3).wf = true → l4.length ≤ maxLen → l4.length * 1 ≤ 140737488351232 → (∀ x ∈ l4, (Lit.int .u8 x).wf = true) → ∃ k, clinkerlaw14_DiskRoom.f k a0 a1 a2 a3 l4 = some true
theorem clinkerlaw14_DiskRoom.walk (P : clinkerlaw14_DiskRoom.Pure) (a0 : Int) (a1 : Int) (a2 : Int) (a3 : Int) (a4 : Option Addr) (len4 cap4 : Nat) (z4 : List Int) (w : World) (w0 : (Lit.int .u8 a0).wf = true) (w1 : (Lit.int .u8 a1).wf = true) (w2 : (Lit.int .u8 a2).wf = true) (w3 : (Lit.int .u8 a3).wf = true) (w4 : (a4 = none ∧ len4 = 0 ∧ cap4 = 0 ∧ z4 = []) ∨ ∃ x, a4 = some x ∧ len4 ≤ cap4 ∧ cap4 ≤ maxLen ∧ z4.length = cap4 ∧ (∀ i, i < z4.length → w.cell? (x.add i) = some (.int .u8 (z4.getD i 0))) ∧ ∀ n ∈ z4, (Lit.int .u8 n).wf = true) (y4 : len4 * 1 ≤ 140737488351232) :
    Calls Try.prog 3 #[.int .u8 a0, .int .u8 a1, .int .u8 a2, .int .u8 a3, .slice a4 len4 cap4] w fun e w' => e = .returned (.bool true) ∧ Below w.heap.size w w' := by
  obtain ⟨l4, rfl, hr4, hm4, hw4, hc4⟩ := ReadsInt.ofRowC w4
  obtain ⟨k, h⟩ := P a0 a1 a2 a3 l4 w0 w1 w2 w3 hm4 y4 hw4
  refine (clinkerlaw14_DiskRoom.calls k a0 a1 a2 a3 _ _ l4 true w (Kd.C_of_reads (d := (0 : Int)) (h1 := fun _ => rfl) hr4) hc4 h).mono ?_
  rintro e w' ⟨rfl, hd⟩
  exact ⟨rfl, hd⟩

end Go.Proofs.Ytnfappdaoeiilaa.PD
