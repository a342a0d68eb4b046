/- Written for this claim by hand: what a chip's pages tell, and its table, by the document, where none is written: nothing. -/
import Derived.Test.YtnfappdaoeiilaaGreatHSameA
import Derived.Test.YtnfappdaoeiilaaGreatHAll
namespace Go.Proofs.YtnfappdaoeiilaaGreat.PD
open Go.RowKit Go.Proofs.YtnfappdaoeiilaaGreatW.PrintWords Go.Proofs.YtnfappdaoeiilaaGreatW.PrintLast Go.Proofs.YtnfappdaoeiilaaGreatW.PrintMore
set_option linter.unusedVariables false
set_option linter.unusedSimpArgs false

set_option maxHeartbeats 2000000 in
theorem rlook0_calls (d t : ByteArray) (w : World) :
    Calls Tryz.prog 75 #[.agg #[.bool false, .string d, .string t]] w fun e w' => e = .returned (.tuple #[.int .i64 0, .agg #[.int .i64 0, .int .i64 0, .slice none 0 0, .slice none 0 0]]) ∧ Below w.heap.size w w' := by
  go_enter Tryz.func75, Tryz.ntmps75
  go_wp2
  have hb : Below w.heap.size w ((w.alloc (Obj.cells #[Value.bool false, Value.string d, Value.string t] 65)).alloc (Obj.cells #[Value.int IntKind.i64 0, Value.int IntKind.i64 0, Value.slice none 0 0, Value.slice none 0 0] 82)) := ((Below.refl _ _).alloc (Nat.le_refl _) _).alloc (by simp) _
  refine bodyPost_ret (results_tc rfl _ _ (w.heap.size + 1) 82 #[.int .i64 0, .int .i64 0, .slice none 0 0, .slice none 0 0] (0, 0) _ rfl (by have := heap_alloc_new (w.alloc (Obj.cells #[Value.bool false, Value.string d, Value.string t] 65)) (Obj.cells #[Value.int IntKind.i64 0, Value.int IntKind.i64 0, Value.slice none 0 0, Value.slice none 0 0] 82); simpa using this) Tryz.underlying82 rfl (by kernel_rfl)) rfl ?_
  exact ⟨rfl, hb⟩
theorem rplace_calls (b p : Nat) (w : World) (hb : b ≤ 9223372036854775807) (hp : p ≤ 9223372036854775807) :
    Calls Tryz.prog 76 #[.int .i64 b, .int .i64 p] w fun e w' => e = .returned (.int .i64 (plc b p)) ∧ w = w' := by
  unfold plc
  by_cases h1 : b < 32
  · by_cases h2 : p < 16
    · have e1 : decide ((b : Int) < 0) = false := by simp
      have e2 : decide ((32 : Int) ≤ (b : Int)) = false := by simp; omega
      have e3 : decide ((p : Int) < 0) = false := by simp
      have e4 : decide ((16 : Int) ≤ (p : Int)) = false := by simp; omega
      rw [if_pos ⟨h1, h2⟩]
      go_enter Tryz.func76, Tryz.ntmps76
      go_wp2
      all_goals (go_ret; exact ⟨by first | rfl | (simp; done) | (simp_all; done), rfl⟩)
    · have e1 : decide ((b : Int) < 0) = false := by simp
      have e2 : decide ((32 : Int) ≤ (b : Int)) = false := by simp; omega
      have e3 : decide ((p : Int) < 0) = false := by simp
      have e4 : decide ((16 : Int) ≤ (p : Int)) = true := by simp; omega
      rw [if_neg (fun h => h2 h.2)]
      go_enter Tryz.func76, Tryz.ntmps76
      go_wp2
      all_goals (go_ret; exact ⟨by first | rfl | (simp; done) | (simp_all; done), rfl⟩)
  · have e1 : decide ((b : Int) < 0) = false := by simp
    have e2 : decide ((32 : Int) ≤ (b : Int)) = true := by simp; omega
    rw [if_neg (fun h => h1 h.1)]
    go_enter Tryz.func76, Tryz.ntmps76
    go_wp2
    all_goals (go_ret; exact ⟨by first | rfl | (simp; done) | (simp_all; done), rfl⟩)

theorem blank_at {l : List S53} (h : blank l = true) {k : Nat} (hk : k < l.length) : ∀ p ∈ (rd_T53 l k).f0, p.f0 = false := by
  intro p hp
  simp only [blank, List.all_eq_true, Bool.not_eq_true'] at h
  refine h _ ?_ p hp
  unfold rd_T53; rw [Int.toNat_natCast, List.getD_eq_getElem?_getD, List.getElem?_eq_getElem hk]; exact List.getElem_mem hk
set_option maxRecDepth 100000 in
set_option maxHeartbeats 2000000 in
theorem rall0_calls (A : Option Addr) (c : Nat) (l : List S53) (b1 b2 : Bool) (n : Int) (w : World) (hA : Kd.C k53 w A l.length l) (hbl : blank l = true) :
    Calls Tryz.prog 58 #[.agg #[.slice A l.length c, .bool b1, .bool b2, .int .i64 n]] w fun e w' => e = .returned (.slice none 0 0) ∧ Below w.heap.size w w' := by
  have hbig : l.length ≤ 9223372036854775807 := hA.2.1
  have HA := Aside0.mk hA
  have HZ := Aside0.mk hbl
  clear hA hbl
  go_enter Tryz.func58, Tryz.ntmps58
  go_wp2
  go_loopg [3, 4] l.length (fun g v i wr => ∃ k : Nat, k ≤ l.length ∧ l.length - k ≤ g ∧ v = .slice none 0 0 ∧ i = .int .i64 k ∧ Aside0 (Below w.heap.size w wr) ∧ Aside0 (wr.heap[w.heap.size]? = some (.cells #[.slice A l.length c, .bool b1, .bool b2, .int .i64 n] 28 (0, 0))))
  case atStart => exact ⟨0, Nat.zero_le _, by omega, rfl, rfl, ⟨(Below.refl _ w).alloc (Nat.le_refl _) _⟩, ⟨heap_alloc_new w _⟩⟩
  case round =>
    obtain ⟨k, hk, hg, rfl, rfl, BW, X0⟩ := hrel
    by_cases hlt : k < l.length
    · have hltz : (k : Int) < (l.length : Int) := by omega
      obtain ⟨ad, A0, p0, e, l0, l1, l2, l3, l4, l5⟩ := at_T53 HA.out (k : Int) (by omega) (by omega)
      obtain rfl := e
      rw [Int.toNat_natCast] at l0
      have hlb := World.block_lt_of_cell? w _ l0
      have L0 := Aside0.mk l0
      have L5 := Aside0.mk l5
      have hy : Aside0 (∀ p ∈ (rd_T53 l k).f0, p.f0 = false) := ⟨blank_at HZ.out hlt⟩
      clear l4 l5 l1 l2 l3 l0
      generalize rd_T53 l k = y at L0 L5 hy
      obtain ⟨y0, y1, y2, y3⟩ := y
      dsimp only at L0 L5 hy
      have hyl : y0.length ≤ 9223372036854775807 := L5.out.2.1
      have c0 : wr.cell? ⟨w.heap.size, 0, none⟩ = some (.slice (some ad) l.length c) := (blk_cell X0.out 0).trans rfl
      go_wp2
      clear c0
      go_loopg [3, 5] y0.length (fun gg v i wr => ∃ j : Nat, j ≤ y0.length ∧ y0.length - j ≤ gg ∧ v = .slice none 0 0 ∧ i = .int .i64 j ∧ Aside0 (Below w.heap.size w wr) ∧ Aside0 (wr.heap[w.heap.size]? = some (.cells #[.slice (some ad) l.length c, .bool b1, .bool b2, .int .i64 n] 28 (0, 0))))
      case atStart => exact ⟨0, Nat.zero_le _, by omega, rfl, rfl, BW, X0⟩
      case round =>
        clear BW X0
        obtain ⟨j, hj, hgg, rfl, rfl, BW, X0⟩ := hrel
        have c0 : wr.cell? ⟨w.heap.size, 0, none⟩ = some (.slice (some ad) l.length c) := (blk_cell X0.out 0).trans rfl
        have l0 := (BW.out.cell hlb).trans L0.out
        by_cases hjt : j < y0.length
        · have hjz : (j : Int) < (y0.length : Int) := by omega
          obtain ⟨e, q, q0, q1, q2⟩ := at_T65 L5.out (j : Int) (by omega) (by omega)
          obtain rfl := q
          rw [Int.toNat_natCast] at q0 q1 q2
          replace q0 := (BW.out.cell (World.block_lt_of_cell? w _ q0)).trans q0
          replace q1 := (BW.out.cell (World.block_lt_of_cell? w _ q1)).trans q1
          replace q2 := (BW.out.cell (World.block_lt_of_cell? w _ q2)).trans q2
          have hzz : (rd_T65 y0 j).f0 = false := hy.out _ (by unfold rd_T65; rw [Int.toNat_natCast, List.getD_eq_getElem?_getD, List.getElem?_eq_getElem hjt]; exact List.getElem_mem hjt)
          generalize rd_T65 y0 j = z at q0 q1 q2 hzz
          obtain ⟨z0, z1, z2⟩ := z
          dsimp only at q0 q1 q2 hzz
          subst hzz
          go_wp2_with fail
          refine (rlook0_calls z1 z2 wr).mono ?_
          rintro e w1 ⟨rfl, h1⟩
          replace X0 := Aside0.mk (blk_below X0.out h1)
          replace BW := Aside0.mk (below_step BW.out h1)
          clear h1 q0 q1 q2 l0 c0
          go_wp2_with fail
          refine (rplace_calls k j _ (by omega) (by omega)).mono ?_
          rintro e w2 ⟨rfl, rfl⟩
          go_wp2_with fail
          go_roundg (y0.length - (j + 1))
          case measure => omega
          case rel => exact ⟨j + 1, by omega, by omega, rfl, by go_num, ⟨below_alloc BW.out _⟩, ⟨blk_alloc X0.out _⟩⟩
        · have hjz : ¬ (j : Int) < (y0.length : Int) := by omega
          go_wp2
          go_roundg (l.length - (k + 1))
          case measure => omega
          case rel => exact ⟨k + 1, by omega, by omega, rfl, by go_num, BW, X0⟩
    · have hltz : ¬ (k : Int) < (l.length : Int) := by omega
      have c0 : wr.cell? ⟨w.heap.size, 0, none⟩ = some (.slice A l.length c) := (blk_cell X0.out 0).trans rfl
      go_wp2
      go_ret
      exact ⟨rfl, BW.out⟩
end Go.Proofs.YtnfappdaoeiilaaGreat.PD
