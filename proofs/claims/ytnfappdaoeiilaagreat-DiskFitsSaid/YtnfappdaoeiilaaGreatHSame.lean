/- Written for this claim by hand: clinkerref02.Same of two lists, and clinkerref14.Same of two devices, that hold the same is true. -/
import Derived.Test.YtnfappdaoeiilaaGreatHSameA
namespace Go.Proofs.YtnfappdaoeiilaaGreat.PD
open Go.RowKit Go.Proofs.YtnfappdaoeiilaaGreatW.PrintWords Go.Proofs.YtnfappdaoeiilaaGreatW.PrintLast Go.Proofs.YtnfappdaoeiilaaGreatW.PrintMore
set_option linter.unusedVariables false
set_option linter.unusedSimpArgs false

set_option maxHeartbeats 1000000 in
theorem same2_calls (A B : Option Addr) (c d : Nat) (l : List Int) (w : World) (hA : Kd.C (Kd.int .i64) w A l.length l) (hB : Kd.C (Kd.int .i64) w B l.length l) :
    Calls Tryz.prog 30 #[.slice A l.length c, .slice B l.length d] w fun e w' => e = .returned (.bool true) ∧ Below w.heap.size w w' := by
  have hbig : l.length ≤ 9223372036854775807 := hA.2.1
  have HA := Aside0.mk hA
  have HB := Aside0.mk hB
  clear hA hB
  go_enter Tryz.func30, Tryz.ntmps30
  go_wp2
  go_loopg [5] l.length (fun g i wr => ∃ k : Nat, k ≤ l.length ∧ l.length - k ≤ g ∧ i = .int .i64 k ∧ Aside0 (Below w.heap.size w wr))
  case atStart => exact ⟨0, Nat.zero_le _, by omega, rfl, ⟨Below.refl _ w⟩⟩
  case round =>
    obtain ⟨k, hk, hg, rfl, BW⟩ := hrel
    by_cases hlt : k < l.length
    · have hltz : (k : Int) < (l.length : Int) := by omega
      obtain ⟨ad, e, l0⟩ := Kd.at_int HA.out (k : Int) (by omega) (by omega)
      obtain rfl := e
      obtain ⟨ad', e, m0⟩ := Kd.at_int HB.out (k : Int) (by omega) (by omega)
      obtain rfl := e
      rw [Int.toNat_natCast] at l0 m0
      replace l0 := (BW.out.cell (World.block_lt_of_cell? w _ l0)).trans l0
      replace m0 := (BW.out.cell (World.block_lt_of_cell? w _ m0)).trans m0
      generalize rd l k = y at l0 m0
      go_wp2
      go_quiet (fail)
      go_wp2
      go_roundg (l.length - (k + 1))
      case measure => omega
      case rel => exact ⟨k + 1, by omega, by omega, by go_num, ⟨pw_below_drewN BW.out _⟩⟩
    · have hltz : ¬ (k : Int) < (l.length : Int) := by omega
      go_wp2
      go_ret
      exact ⟨rfl, BW.out⟩

attribute [local go_sem high] eqA24
set_option maxRecDepth 100000 in
set_option maxHeartbeats 2000000 in
theorem same14_calls (G1 G2 G3 G4 : Int) (A B : Option Addr) (c d : Nat) (l : List S53) (b1 b2 : Bool) (n : Int) (M M' : Option Addr) (cm dm : Nat) (m : List Int) (Y Y' : Option Addr) (cy dy : Nat) (y : List Int) (s o : Int) (w : World)
    (hA : Kd.C k53 w A l.length l) (hB : Kd.C k53 w B l.length l) (hM : Kd.C (Kd.int .i64) w M m.length m) (hM' : Kd.C (Kd.int .i64) w M' m.length m) (hY : Kd.C (Kd.int .i64) w Y y.length y) (hY' : Kd.C (Kd.int .i64) w Y' y.length y) :
    Calls Tryz.prog 12 #[.agg #[.int .i64 G1, .int .i64 G2, .int .i64 G3, .int .i64 G4, .slice A l.length c, .bool b1, .bool b2, .int .i64 n, .slice M m.length cm, .slice Y y.length cy, .int .i64 s, .int .i64 o],
      .agg #[.int .i64 G1, .int .i64 G2, .int .i64 G3, .int .i64 G4, .slice B l.length d, .bool b1, .bool b2, .int .i64 n, .slice M' m.length dm, .slice Y' y.length dy, .int .i64 s, .int .i64 o]] w fun e w' => e = .returned (.bool true) ∧ Below w.heap.size w w' := by
  have HA := Aside0.mk hA
  have HB := Aside0.mk hB
  have HM := Aside0.mk hM
  have HM' := Aside0.mk hM'
  have HY := Aside0.mk hY
  have HY' := Aside0.mk hY'
  clear hA hB hM hM' hY hY'
  go_enter Tryz.func12, Tryz.ntmps12
  go_wp2_with fail
  have hb : Below w.heap.size w ((w.alloc (.cells #[.int .i64 G1, .int .i64 G2, .int .i64 G3, .int .i64 G4, .slice A l.length c, .bool b1, .bool b2, .int .i64 n, .slice M m.length cm, .slice Y y.length cy, .int .i64 s, .int .i64 o] 32)).alloc (.cells #[.int .i64 G1, .int .i64 G2, .int .i64 G3, .int .i64 G4, .slice B l.length d, .bool b1, .bool b2, .int .i64 n, .slice M' m.length dm, .slice Y' y.length dy, .int .i64 s, .int .i64 o] 32)) := ((Below.refl _ w).alloc (Nat.le_refl _) _).alloc (by simp) _
  have x0 : ((w.alloc (.cells #[.int .i64 G1, .int .i64 G2, .int .i64 G3, .int .i64 G4, .slice A l.length c, .bool b1, .bool b2, .int .i64 n, .slice M m.length cm, .slice Y y.length cy, .int .i64 s, .int .i64 o] 32)).alloc (.cells #[.int .i64 G1, .int .i64 G2, .int .i64 G3, .int .i64 G4, .slice B l.length d, .bool b1, .bool b2, .int .i64 n, .slice M' m.length dm, .slice Y' y.length dy, .int .i64 s, .int .i64 o] 32)).heap[w.heap.size]? = some _ := blk_alloc (heap_alloc_new w _) _
  have x1 := box2 w (.cells #[.int .i64 G1, .int .i64 G2, .int .i64 G3, .int .i64 G4, .slice A l.length c, .bool b1, .bool b2, .int .i64 n, .slice M m.length cm, .slice Y y.length cy, .int .i64 s, .int .i64 o] 32) (.cells #[.int .i64 G1, .int .i64 G2, .int .i64 G3, .int .i64 G4, .slice B l.length d, .bool b1, .bool b2, .int .i64 n, .slice M' m.length dm, .slice Y' y.length dy, .int .i64 s, .int .i64 o] 32)
  generalize (w.alloc (.cells #[.int .i64 G1, .int .i64 G2, .int .i64 G3, .int .i64 G4, .slice A l.length c, .bool b1, .bool b2, .int .i64 n, .slice M m.length cm, .slice Y y.length cy, .int .i64 s, .int .i64 o] 32)).alloc (.cells #[.int .i64 G1, .int .i64 G2, .int .i64 G3, .int .i64 G4, .slice B l.length d, .bool b1, .bool b2, .int .i64 n, .slice M' m.length dm, .slice Y' y.length dy, .int .i64 s, .int .i64 o] 32) = W0 at hb x0 x1 ⊢
  have BW := Aside0.mk hb
  have X0 := Aside0.mk x0
  have X1 := Aside0.mk x1
  clear hb x0 x1
  refine (same5_calls _ _ _ _ _ _ _ _ _ (Kd.C_below HA.out BW.out) (Kd.C_below HB.out BW.out)).mono ?_
  rintro e w1 ⟨rfl, h1⟩
  replace X0 := Aside0.mk (blk_below X0.out h1)
  replace X1 := Aside0.mk (blk_below X1.out h1)
  replace BW := Aside0.mk (below_step BW.out h1)
  clear h1
  have p1 : w1.cell? ⟨w.heap.size, 8, none⟩ = some (.slice M m.length cm) := (blk_cell X0.out 8).trans rfl
  have p2 : w1.cell? ⟨w.heap.size + 1, 8, none⟩ = some (.slice M' m.length dm) := (blk_cell X1.out 8).trans rfl
  go_wp2_with fail
  refine (same2_calls _ _ _ _ _ _ (Kd.C_below HM.out BW.out) (Kd.C_below HM'.out BW.out)).mono ?_
  rintro e w2 ⟨rfl, h1⟩
  replace X0 := Aside0.mk (blk_below X0.out h1)
  replace X1 := Aside0.mk (blk_below X1.out h1)
  replace BW := Aside0.mk (below_step BW.out h1)
  clear h1 p1 p2
  have p1 : w2.cell? ⟨w.heap.size, 9, none⟩ = some (.slice Y y.length cy) := (blk_cell X0.out 9).trans rfl
  have p2 : w2.cell? ⟨w.heap.size + 1, 9, none⟩ = some (.slice Y' y.length dy) := (blk_cell X1.out 9).trans rfl
  go_wp2_with fail
  refine (same2_calls _ _ _ _ _ _ (Kd.C_below HY.out BW.out) (Kd.C_below HY'.out BW.out)).mono ?_
  rintro e w3 ⟨rfl, h1⟩
  replace X0 := Aside0.mk (blk_below X0.out h1)
  replace X1 := Aside0.mk (blk_below X1.out h1)
  replace BW := Aside0.mk (below_step BW.out h1)
  clear h1 p1 p2
  have p1 : w3.cell? ⟨w.heap.size, 10, none⟩ = some (.int .i64 s) := (blk_cell X0.out 10).trans rfl
  have p2 : w3.cell? ⟨w.heap.size + 1, 10, none⟩ = some (.int .i64 s) := (blk_cell X1.out 10).trans rfl
  have p3 : w3.cell? ⟨w.heap.size, 11, none⟩ = some (.int .i64 o) := (blk_cell X0.out 11).trans rfl
  have p4 : w3.cell? ⟨w.heap.size + 1, 11, none⟩ = some (.int .i64 o) := (blk_cell X1.out 11).trans rfl
  go_wp2_with fail
  go_ret
  exact ⟨rfl, BW.out⟩
end Go.Proofs.YtnfappdaoeiilaaGreat.PD
