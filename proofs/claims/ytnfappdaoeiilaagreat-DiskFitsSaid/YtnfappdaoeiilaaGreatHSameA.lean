/- Written for this claim by hand: clinkerref05.Same of two chips that hold the same is true. -/
import Derived.Test.YtnfappdaoeiilaaGreatPDx0
import Derived.Test.YtnfappdaoeiilaaGreatHEq
namespace Go.Proofs.YtnfappdaoeiilaaGreat.PD
open Go.RowKit Go.Proofs.YtnfappdaoeiilaaGreatW.PrintWords Go.Proofs.YtnfappdaoeiilaaGreatW.PrintLast Go.Proofs.YtnfappdaoeiilaaGreatW.PrintMore
set_option linter.unusedVariables false
set_option linter.unusedSimpArgs false

attribute [local go_sem high] eqA65
theorem box2 (w : World) (o : Obj) (o' : Obj) : ((w.alloc o).alloc o').heap[w.heap.size + 1]? = some o' := by
  have := heap_alloc_new (w.alloc o) o'
  rwa [World.size_alloc] at this
theorem box3 (w : World) (o : Obj) (o' : Obj) (o3 : Obj) : (((w.alloc o).alloc o').alloc o3).heap[w.heap.size + 2]? = some o3 := by
  have := heap_alloc_new ((w.alloc o).alloc o') o3
  rwa [World.size_alloc, World.size_alloc] at this
set_option maxRecDepth 100000 in
set_option maxHeartbeats 2000000 in
theorem same5_calls (A B : Option Addr) (c d : Nat) (l : List S53) (b1 b2 : Bool) (n : Int) (w : World) (hA : Kd.C k53 w A l.length l) (hB : Kd.C k53 w B l.length l) :
    Calls Tryz.prog 22 #[.agg #[.slice A l.length c, .bool b1, .bool b2, .int .i64 n], .agg #[.slice B l.length d, .bool b1, .bool b2, .int .i64 n]] w fun e w' => e = .returned (.bool true) ∧ Below w.heap.size w w' := by
  have hbig : l.length ≤ 9223372036854775807 := hA.2.1
  have HA := Aside0.mk hA
  have HB := Aside0.mk hB
  clear hA hB
  go_enter Tryz.func22, Tryz.ntmps22
  go_wp2
  go_loopg [5] l.length (fun g i wr => ∃ k : Nat, k ≤ l.length ∧ l.length - k ≤ g ∧ i = .int .i64 k ∧ Aside0 (Below w.heap.size w wr) ∧ Aside0 (wr.heap[w.heap.size]? = some (.cells #[.slice A l.length c, .bool b1, .bool b2, .int .i64 n] 28 (0, 0))) ∧ Aside0 (wr.heap[w.heap.size + 1]? = some (.cells #[.slice B l.length d, .bool b1, .bool b2, .int .i64 n] 28 (0, 0))))
  case atStart =>
    refine ⟨0, Nat.zero_le _, by omega, rfl, ⟨?_⟩, ⟨?_⟩, ⟨?_⟩⟩
    · exact ((Below.refl _ w).alloc (Nat.le_refl _) _).alloc (by simp) _
    · exact blk_alloc (heap_alloc_new w _) _
    · exact box2 w _ _
  case round =>
    obtain ⟨k, hk, hg, rfl, BW, X0, X1⟩ := hrel
    by_cases hlt : k < l.length
    · obtain ⟨ad, A0, p0, e, l0, l1, l2, l3, l4, l5⟩ := at_T53 HA.out (k : Int) (by omega) (by omega)
      obtain rfl := e
      obtain ⟨ad', A0', p0', e, m0, m1, m2, m3, m4, m5⟩ := at_T53 HB.out (k : Int) (by omega) (by omega)
      obtain rfl := e
      have hltz : (k : Int) < (l.length : Int) := by omega
      have c0 : wr.cell? ⟨w.heap.size, 0, none⟩ = some (.slice (some ad) l.length c) := (blk_cell X0.out 0).trans rfl
      have c1 : wr.cell? ⟨w.heap.size + 1, 0, none⟩ = some (.slice (some ad') l.length d) := (blk_cell X1.out 0).trans rfl
      rw [Int.toNat_natCast] at l0 l1 l2 l3 m0 m1 m2 m3
      replace l0 := (BW.out.cell (World.block_lt_of_cell? w _ l0)).trans l0
      replace l1 := (BW.out.cell (World.block_lt_of_cell? w _ l1)).trans l1
      replace l2 := (BW.out.cell (World.block_lt_of_cell? w _ l2)).trans l2
      replace l3 := (BW.out.cell (World.block_lt_of_cell? w _ l3)).trans l3
      replace m0 := (BW.out.cell (World.block_lt_of_cell? w _ m0)).trans m0
      replace m1 := (BW.out.cell (World.block_lt_of_cell? w _ m1)).trans m1
      replace m2 := (BW.out.cell (World.block_lt_of_cell? w _ m2)).trans m2
      replace m3 := (BW.out.cell (World.block_lt_of_cell? w _ m3)).trans m3
      have L5 := Aside0.mk l5
      have M5 := Aside0.mk m5
      clear l4 l5 m4 m5
      generalize rd_T53 l k = y at l0 l1 l2 l3 L5 m0 m1 m2 m3 M5
      obtain ⟨y0, y1, y2, y3⟩ := y
      dsimp only at l0 l1 l2 l3 m0 m1 m2 m3 L5 M5
      go_upto_region 6 with (fail)
      go_cut [6, 7] (fun v6 v7 wc => ∃ g6 g7 : Nat, v6 = .pointer (some ⟨g6, 0, none⟩) ∧ v7 = .pointer (some ⟨g7, 0, none⟩) ∧ Aside0 (w.heap.size ≤ g6) ∧ Aside0 (w.heap.size ≤ g7) ∧ Aside0 (Below w.heap.size w wc) ∧ Aside0 (wc.heap[w.heap.size]? = some (.cells #[.slice (some ad) l.length c, .bool b1, .bool b2, .int .i64 n] 28 (0, 0))) ∧ Aside0 (wc.heap[w.heap.size + 1]? = some (.cells #[.slice (some ad') l.length d, .bool b1, .bool b2, .int .i64 n] 28 (0, 0))) ∧ Aside0 (wc.heap[g6]? = some (.cells #[.slice A0 y0.length p0, .int .i64 y1, .int .i64 y2, .bool y3] 53 (0, 0))) ∧ Aside0 (wc.heap[g7]? = some (.cells #[.slice A0' y0.length p0', .int .i64 y1, .int .i64 y2, .bool y3] 53 (0, 0))))
      case first =>
        go_region_held3 (fun w' => w'.cell? ⟨w.heap.size, 0, none⟩ = some (.slice (some ad) l.length c) ∧ w'.cell? ⟨w.heap.size + 1, 0, none⟩ = some (.slice (some ad') l.length d) ∧
          w'.cell? (ad.add (k * 4)) = some (.slice A0 y0.length p0) ∧ w'.cell? ⟨(ad.add (k * 4)).block, (ad.add (k * 4)).off + 1, none⟩ = some (.int .i64 y1) ∧ w'.cell? ⟨(ad.add (k * 4)).block, (ad.add (k * 4)).off + 2, none⟩ = some (.int .i64 y2) ∧ w'.cell? ⟨(ad.add (k * 4)).block, (ad.add (k * 4)).off + 3, none⟩ = some (.bool y3) ∧
          w'.cell? (ad'.add (k * 4)) = some (.slice A0' y0.length p0') ∧ w'.cell? ⟨(ad'.add (k * 4)).block, (ad'.add (k * 4)).off + 1, none⟩ = some (.int .i64 y1) ∧ w'.cell? ⟨(ad'.add (k * 4)).block, (ad'.add (k * 4)).off + 2, none⟩ = some (.int .i64 y2) ∧ w'.cell? ⟨(ad'.add (k * 4)).block, (ad'.add (k * 4)).off + 3, none⟩ = some (.bool y3))
          (first | go_keep) (fail)
        · go_wp2
          go_meet
          case rel => exact ⟨wr.heap.size, wr.heap.size + 1, rfl, rfl, ⟨BW.out.size⟩, ⟨Nat.le_succ_of_le BW.out.size⟩, ⟨below_drew (below_alloc (below_alloc BW.out _) _)⟩, ⟨blk_alloc (blk_alloc X0.out _) _⟩, ⟨blk_alloc (blk_alloc X1.out _) _⟩, ⟨blk_alloc (heap_alloc_new wr _) _⟩, ⟨box2 wr _ _⟩⟩
        · go_wp2
          go_meet
          case rel => exact ⟨wr.heap.size + 1, wr.heap.size, rfl, rfl, ⟨Nat.le_succ_of_le BW.out.size⟩, ⟨BW.out.size⟩, ⟨below_drew (below_alloc (below_alloc BW.out _) _)⟩, ⟨blk_alloc (blk_alloc X0.out _) _⟩, ⟨blk_alloc (blk_alloc X1.out _) _⟩, ⟨box2 wr _ _⟩, ⟨blk_alloc (heap_alloc_new wr _) _⟩⟩
      case rest =>
        clear c0 c1 l0 l1 l2 l3 m0 m1 m2 m3 X0 X1 BW
        obtain ⟨g6, g7, rfl, rfl, G6, G7, BW, X0, X1, X6, X7⟩ := hcut
        have a0 : wc.cell? ⟨g6, 0, none⟩ = some (.slice A0 y0.length p0) := (blk_cell X6.out 0).trans rfl
        have a1 : wc.cell? ⟨g6, 1, none⟩ = some (.int .i64 y1) := (blk_cell X6.out 1).trans rfl
        have a2 : wc.cell? ⟨g6, 2, none⟩ = some (.int .i64 y2) := (blk_cell X6.out 2).trans rfl
        have a3 : wc.cell? ⟨g6, 3, none⟩ = some (.bool y3) := (blk_cell X6.out 3).trans rfl
        have d0 : wc.cell? ⟨g7, 0, none⟩ = some (.slice A0' y0.length p0') := (blk_cell X7.out 0).trans rfl
        have d1 : wc.cell? ⟨g7, 1, none⟩ = some (.int .i64 y1) := (blk_cell X7.out 1).trans rfl
        have d2 : wc.cell? ⟨g7, 2, none⟩ = some (.int .i64 y2) := (blk_cell X7.out 2).trans rfl
        have d3 : wc.cell? ⟨g7, 3, none⟩ = some (.bool y3) := (blk_cell X7.out 3).trans rfl
        have hy : y0.length ≤ 9223372036854775807 := L5.out.2.1
        go_wp2
        clear a0 a1 a2 a3 d0 d1 d2 d3
        go_loopg [8] y0.length (fun gg i wr => ∃ j : Nat, j ≤ y0.length ∧ y0.length - j ≤ gg ∧ i = .int .i64 j ∧ Aside0 (Below w.heap.size w wr) ∧ Aside0 (wr.heap[w.heap.size]? = some (.cells #[.slice (some ad) l.length c, .bool b1, .bool b2, .int .i64 n] 28 (0, 0))) ∧ Aside0 (wr.heap[w.heap.size + 1]? = some (.cells #[.slice (some ad') l.length d, .bool b1, .bool b2, .int .i64 n] 28 (0, 0))) ∧ Aside0 (wr.heap[g6]? = some (.cells #[.slice A0 y0.length p0, .int .i64 y1, .int .i64 y2, .bool y3] 53 (0, 0))) ∧ Aside0 (wr.heap[g7]? = some (.cells #[.slice A0' y0.length p0', .int .i64 y1, .int .i64 y2, .bool y3] 53 (0, 0))))
        case atStart => exact ⟨0, Nat.zero_le _, by omega, rfl, BW, X0, X1, X6, X7⟩
        case round =>
          clear BW X0 X1 X6 X7
          obtain ⟨j, hj, hgg, rfl, BW, X0, X1, X6, X7⟩ := hrel
          have a0 : wr.cell? ⟨g6, 0, none⟩ = some (.slice A0 y0.length p0) := (blk_cell X6.out 0).trans rfl
          have d0 : wr.cell? ⟨g7, 0, none⟩ = some (.slice A0' y0.length p0') := (blk_cell X7.out 0).trans rfl
          by_cases hjt : j < y0.length
          · have hjz : (j : Int) < (y0.length : Int) := by omega
            obtain ⟨e, q, q0, q1, q2⟩ := at_T65 L5.out (j : Int) (by omega) (by omega)
            obtain rfl := q
            obtain ⟨e', q, r0, r1, r2⟩ := at_T65 M5.out (j : Int) (by omega) (by omega)
            obtain rfl := q
            rw [Int.toNat_natCast] at q0 q1 q2 r0 r1 r2
            replace q0 := (BW.out.cell (World.block_lt_of_cell? w _ q0)).trans q0
            replace q1 := (BW.out.cell (World.block_lt_of_cell? w _ q1)).trans q1
            replace q2 := (BW.out.cell (World.block_lt_of_cell? w _ q2)).trans q2
            replace r0 := (BW.out.cell (World.block_lt_of_cell? w _ r0)).trans r0
            replace r1 := (BW.out.cell (World.block_lt_of_cell? w _ r1)).trans r1
            replace r2 := (BW.out.cell (World.block_lt_of_cell? w _ r2)).trans r2
            generalize rd_T65 y0 j = z at q0 q1 q2 r0 r1 r2
            obtain ⟨z0, z1, z2⟩ := z
            dsimp only at q0 q1 q2 r0 r1 r2
            go_wp2
            go_quiet (fail)
            go_wp2
            go_roundg (y0.length - (j + 1))
            case measure => omega
            case rel => exact ⟨j + 1, by omega, by omega, by go_num, ⟨pw_below_drewN BW.out _⟩, X0, X1, X6, X7⟩
          · have hjz : ¬ (j : Int) < (y0.length : Int) := by omega
            go_wp2
            go_roundg (l.length - (k + 1))
            case measure => omega
            case rel => exact ⟨k + 1, by omega, by omega, by go_num, BW, X0, X1⟩
    · have hltz : ¬ (k : Int) < (l.length : Int) := by omega
      have c0 : wr.cell? ⟨w.heap.size, 0, none⟩ = some (.slice A l.length c) := (blk_cell X0.out 0).trans rfl
      go_wp2
      go_ret
      exact ⟨rfl, BW.out⟩
end Go.Proofs.YtnfappdaoeiilaaGreat.PD
