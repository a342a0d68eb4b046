/- Written for this claim by hand: clinkerref14.bads and clinkerref14.Format. -/
import Derived.Test.YtnfappdaoeiilaaGreatHRefNew
import Derived.Test.YtnfappdaoeiilaaGreatHRefMount
namespace Go.Proofs.YtnfappdaoeiilaaGreat.PD
open Go.RowKit Go.Proofs.YtnfappdaoeiilaaGreatW.PrintWords Go.Proofs.YtnfappdaoeiilaaGreatW.PrintLast Go.Proofs.YtnfappdaoeiilaaGreatW.PrintMore
set_option linter.unusedVariables false
set_option linter.unusedSimpArgs false

/-- How many blocks are Bad. -/
def badN (l : List S53) : Nat := l.countP (·.f3)
theorem badN_le (l : List S53) : badN l ≤ l.length := List.countP_le_length
theorem badN_snoc (l : List S53) (k : Nat) (h : k < l.length) : badN (l.take (k + 1)) = badN (l.take k) + if (rd_T53 l k).f3 = true then 1 else 0 := by
  unfold badN rd_T53
  rw [List.take_succ_eq_append_getElem h, List.countP_append, Int.toNat_natCast, List.getD_eq_getElem?_getD, List.getElem?_eq_getElem h]
  simp [List.countP_cons]
set_option maxHeartbeats 1000000 in
theorem rbads_calls (A : Option Addr) (c : Nat) (l : List S53) (b1 b2 : Bool) (n : Int) (w : World) (hA : Kd.C k53 w A l.length l) :
    Calls Tryz.prog 27 #[.agg #[.slice A l.length c, .bool b1, .bool b2, .int .i64 n]] w fun e w' => e = .returned (.int .i64 (badN l)) ∧ Below w.heap.size w w' := by
  have hbig : l.length ≤ 9223372036854775807 := hA.2.1
  have HA := Aside0.mk hA
  clear hA
  go_enter Tryz.func27, Tryz.ntmps27
  go_wp2
  go_loopg [3, 4] l.length (fun g v i wr => ∃ k : Nat, k ≤ l.length ∧ l.length - k ≤ g ∧ v = .int .i64 (badN (l.take k)) ∧ i = .int .i64 k ∧ Aside0 (Below w.heap.size w wr) ∧ Aside0 (wr.heap[w.heap.size]? = some (.cells #[.slice A l.length c, .bool b1, .bool b2, .int .i64 n] 28 (0, 0))))
  case atStart => exact ⟨0, Nat.zero_le _, by omega, rfl, rfl, ⟨(Below.refl _ w).alloc (Nat.le_refl _) _⟩, ⟨heap_alloc_new w _⟩⟩
  case round =>
    obtain ⟨k, hk, hg, rfl, rfl, BW, X0⟩ := hrel
    have c0 : wr.cell? ⟨w.heap.size, 0, none⟩ = some (.slice A l.length c) := (blk_cell X0.out 0).trans rfl
    by_cases hlt : k < l.length
    · have hltz : (k : Int) < (l.length : Int) := by omega
      obtain ⟨ad, A0, p0, e, l0, l1, l2, l3, l4, l5⟩ := at_T53 HA.out (k : Int) (by omega) (by omega)
      obtain rfl := e
      rw [Int.toNat_natCast] at l3
      replace l3 := (BW.out.cell (World.block_lt_of_cell? w _ l3)).trans l3
      have hb := badN_le (l.take k)
      rw [List.length_take] at hb
      have hb2 : badN (l.take k) ≤ 9223372036854775000 ∨ True := .inr trivial
      have HS := Aside0.mk (badN_snoc l k hlt)
      clear l0 l1 l2 l4 l5 hb2
      generalize (rd_T53 l k).f3 = z at l3 HS
      generalize badN (l.take k) = m at HS hb ⊢
      have hm : m ≤ l.length := by omega
      have hm2 : m < 9223372036854775807 := by omega
      clear hb
      cases z with
      | true =>
        go_wp2
        go_roundg (l.length - (k + 1))
        case measure => omega
        case rel => exact ⟨k + 1, by omega, by omega, by rw [HS.out]; simp, by go_num, BW, X0⟩
      | false =>
        go_wp2
        go_roundg (l.length - (k + 1))
        case measure => omega
        case rel => exact ⟨k + 1, by omega, by omega, by rw [HS.out]; simp, by go_num, BW, X0⟩
    · obtain rfl : k = l.length := by omega
      have hltz : ¬ (l.length : Int) < (l.length : Int) := by omega
      rw [List.take_length]
      go_wp2
      go_ret
      exact ⟨rfl, BW.out⟩

theorem badN_map (P : Nat) (ms : List Bool) : badN (ms.map (Q.freshB P)) = ms.count true := by
  unfold badN
  rw [List.countP_map, List.count]
  congr 1
  funext m
  cases m <;> rfl
abbrev zero12 : Value := .agg #[.int .i64 0, .int .i64 0, .int .i64 0, .int .i64 0, .slice none 0 0, .bool false, .bool false, .int .i64 0, .slice none 0 0, .slice none 0 0, .int .i64 0, .int .i64 0]
/-- What Format leaves. -/
def FmtOut (w0 : World) (B P S R : Nat) (bad : List Int) (e : Ending) (w' : World) : Prop :=
  (Q.okF B P S R bad = false ∧ e = .returned (.tuple #[zero12, .int .i64 1]) ∧ Below w0.heap.size w0 w') ∨
  (Q.okF B P S R bad = true ∧ Mounted w0 B P S R ((Q.marks (List.replicate B false) bad).map (Q.freshB P)) false 0 (List.replicate S (-1)) (List.replicate S (-1)) 0 (-1) e w')
theorem open_none (P : Nat) (ms : List Bool) : idxP (pOpen P) (ms.map (Q.freshB P)) 0 = -1 := Q.idx_map P _ (fun m => by simp [pOpen, Q.freshB]) ms 0
set_option maxRecDepth 100000 in
set_option maxHeartbeats 4000000 in
theorem rformat_calls (B P S R : Nat) (hs : B ≤ 1000 ∧ P ≤ 1000 ∧ S ≤ 1000 ∧ R ≤ 1000) (A : Option Addr) (c : Nat) (bad : List Int) (w : World) (hA : Kd.C (Kd.int .i64) w A bad.length bad) :
    Calls Tryz.prog 8 #[.agg #[.int .i64 B, .int .i64 P, .int .i64 S, .int .i64 R], .slice A bad.length c] w (FmtOut w B P S R bad) := by
  have HA := Aside0.mk hA
  have HF := Aside0.mk (rfits_eq B P S R hs)
  clear hA
  go_enter Tryz.func8, Tryz.ntmps8
  go_wp2_with fail
  have hb : Below w.heap.size w ((w.alloc (.cells #[.int .i64 B, .int .i64 P, .int .i64 S, .int .i64 R] 24)).alloc (.cells #[.int .i64 0, .int .i64 0, .int .i64 0, .int .i64 0, .slice none 0 0, .bool false, .bool false, .int .i64 0, .slice none 0 0, .slice none 0 0, .int .i64 0, .int .i64 0] 32)) := below_alloc (below_alloc (Below.refl _ w) _) _
  have x0 : ((w.alloc (.cells #[.int .i64 B, .int .i64 P, .int .i64 S, .int .i64 R] 24)).alloc (.cells #[.int .i64 0, .int .i64 0, .int .i64 0, .int .i64 0, .slice none 0 0, .bool false, .bool false, .int .i64 0, .slice none 0 0, .slice none 0 0, .int .i64 0, .int .i64 0] 32)).heap[w.heap.size]? = some _ := blk_alloc (heap_alloc_new w _) _
  have x1 := box2 w (.cells #[.int .i64 B, .int .i64 P, .int .i64 S, .int .i64 R] 24) (.cells #[.int .i64 0, .int .i64 0, .int .i64 0, .int .i64 0, .slice none 0 0, .bool false, .bool false, .int .i64 0, .slice none 0 0, .slice none 0 0, .int .i64 0, .int .i64 0] 32)
  generalize (w.alloc (.cells #[.int .i64 B, .int .i64 P, .int .i64 S, .int .i64 R] 24)).alloc (.cells #[.int .i64 0, .int .i64 0, .int .i64 0, .int .i64 0, .slice none 0 0, .bool false, .bool false, .int .i64 0, .slice none 0 0, .slice none 0 0, .int .i64 0, .int .i64 0] 32) = W0 at hb x0 x1 ⊢
  refine (clinkerref14_Fits.calls _ _ _ _ _ _ HF.out).mono ?_
  rintro e w1 ⟨rfl, h1⟩
  have X0 := Aside0.mk (blk_below x0 h1)
  have X1 := Aside0.mk (blk_below x1 h1)
  have BW := Aside0.mk (below_step hb h1)
  clear hb x0 x1 h1 HF
  have hle1 : w.heap.size ≤ w.heap.size + 1 := Nat.le_succ _
  cases hf : Q.fitsB B P S R with
  | false =>
    have HO := Aside0.mk (show Q.okF B P S R bad = false by unfold Q.okF; rw [hf]; rfl)
    clear hf
    have s0 : w1.cell? ⟨w.heap.size + 1, 0, none⟩ = some (.int .i64 0) := (blk_cell X1.out 0).trans rfl
    have s1 : w1.cell? ⟨w.heap.size + 1, 1, none⟩ = some (.int .i64 0) := (blk_cell X1.out 1).trans rfl
    have s2 : w1.cell? ⟨w.heap.size + 1, 2, none⟩ = some (.int .i64 0) := (blk_cell X1.out 2).trans rfl
    have s3 : w1.cell? ⟨w.heap.size + 1, 3, none⟩ = some (.int .i64 0) := (blk_cell X1.out 3).trans rfl
    have s4 : w1.cell? ⟨w.heap.size + 1, 4, none⟩ = some (.slice none 0 0) := (blk_cell X1.out 4).trans rfl
    have s5 : w1.cell? ⟨w.heap.size + 1, 5, none⟩ = some (.bool false) := (blk_cell X1.out 5).trans rfl
    have s6 : w1.cell? ⟨w.heap.size + 1, 6, none⟩ = some (.bool false) := (blk_cell X1.out 6).trans rfl
    have s7 : w1.cell? ⟨w.heap.size + 1, 7, none⟩ = some (.int .i64 0) := (blk_cell X1.out 7).trans rfl
    have s8 : w1.cell? ⟨w.heap.size + 1, 8, none⟩ = some (.slice none 0 0) := (blk_cell X1.out 8).trans rfl
    have s9 : w1.cell? ⟨w.heap.size + 1, 9, none⟩ = some (.slice none 0 0) := (blk_cell X1.out 9).trans rfl
    have s10 : w1.cell? ⟨w.heap.size + 1, 10, none⟩ = some (.int .i64 0) := (blk_cell X1.out 10).trans rfl
    have s11 : w1.cell? ⟨w.heap.size + 1, 11, none⟩ = some (.int .i64 0) := (blk_cell X1.out 11).trans rfl
    have r0 := blk_frozen X1.out 0
    have r1 := blk_frozen X1.out 1
    have r2 := blk_frozen X1.out 2
    have r3 := blk_frozen X1.out 3
    have r4 := blk_frozen X1.out 4
    have r5 := blk_frozen X1.out 5
    have r6 := blk_frozen X1.out 6
    have r7 := blk_frozen X1.out 7
    have r8 := blk_frozen X1.out 8
    have r9 := blk_frozen X1.out 9
    have r10 := blk_frozen X1.out 10
    have r11 := blk_frozen X1.out 11
    go_wp2_with fail
    refine bodyPost_ret (results_ct rfl _ _ (w.heap.size + 1) 32 #[.int .i64 0, .int .i64 0, .int .i64 0, .int .i64 0, .slice none 0 0, .bool false, .bool false, .int .i64 0, .slice none 0 0, .slice none 0 0, .int .i64 0, .int .i64 0] (0, 0) _ rfl (set12 X1.out) Tryz.underlying32 rfl (by kernel_rfl)) rfl ?_
    exact .inl ⟨HO.out, rfl, below12 BW.out hle1⟩
  | true =>
    have hr : (1 ≤ B ∧ B ≤ 32) ∧ (1 ≤ P ∧ P ≤ 16) := by unfold Q.fitsB at hf; rw [decide_eq_true_iff] at hf; omega
    have HF := Aside0.mk hf
    clear hf
    have d0 : w1.cell? ⟨w.heap.size, 0, none⟩ = some (.int .i64 B) := (blk_cell X0.out 0).trans rfl
    have d1 : w1.cell? ⟨w.heap.size, 1, none⟩ = some (.int .i64 P) := (blk_cell X0.out 1).trans rfl
    go_wp2_with fail
    refine (rnew5_calls B P hr.1 hr.2 A c bad w1 (Kd.C_below HA.out BW.out)).mono ?_
    clear d0 d1
    rintro e w2 (⟨ho, rfl, h1⟩ | ⟨ho, V, d, rfl, hS, h1⟩)
    · replace X0 := Aside0.mk (blk_below X0.out h1)
      replace X1 := Aside0.mk (blk_below X1.out h1)
      replace BW := Aside0.mk (below_step BW.out h1)
      have HO := Aside0.mk (show Q.okF B P S R bad = false by unfold Q.okF; rw [ho]; simp)
      clear h1 ho
      have s0 : w2.cell? ⟨w.heap.size + 1, 0, none⟩ = some (.int .i64 0) := (blk_cell X1.out 0).trans rfl
      have s1 : w2.cell? ⟨w.heap.size + 1, 1, none⟩ = some (.int .i64 0) := (blk_cell X1.out 1).trans rfl
      have s2 : w2.cell? ⟨w.heap.size + 1, 2, none⟩ = some (.int .i64 0) := (blk_cell X1.out 2).trans rfl
      have s3 : w2.cell? ⟨w.heap.size + 1, 3, none⟩ = some (.int .i64 0) := (blk_cell X1.out 3).trans rfl
      have s4 : w2.cell? ⟨w.heap.size + 1, 4, none⟩ = some (.slice none 0 0) := (blk_cell X1.out 4).trans rfl
      have s5 : w2.cell? ⟨w.heap.size + 1, 5, none⟩ = some (.bool false) := (blk_cell X1.out 5).trans rfl
      have s6 : w2.cell? ⟨w.heap.size + 1, 6, none⟩ = some (.bool false) := (blk_cell X1.out 6).trans rfl
      have s7 : w2.cell? ⟨w.heap.size + 1, 7, none⟩ = some (.int .i64 0) := (blk_cell X1.out 7).trans rfl
      have s8 : w2.cell? ⟨w.heap.size + 1, 8, none⟩ = some (.slice none 0 0) := (blk_cell X1.out 8).trans rfl
      have s9 : w2.cell? ⟨w.heap.size + 1, 9, none⟩ = some (.slice none 0 0) := (blk_cell X1.out 9).trans rfl
      have s10 : w2.cell? ⟨w.heap.size + 1, 10, none⟩ = some (.int .i64 0) := (blk_cell X1.out 10).trans rfl
      have s11 : w2.cell? ⟨w.heap.size + 1, 11, none⟩ = some (.int .i64 0) := (blk_cell X1.out 11).trans rfl
      have r0 := blk_frozen X1.out 0
      have r1 := blk_frozen X1.out 1
      have r2 := blk_frozen X1.out 2
      have r3 := blk_frozen X1.out 3
      have r4 := blk_frozen X1.out 4
      have r5 := blk_frozen X1.out 5
      have r6 := blk_frozen X1.out 6
      have r7 := blk_frozen X1.out 7
      have r8 := blk_frozen X1.out 8
      have r9 := blk_frozen X1.out 9
      have r10 := blk_frozen X1.out 10
      have r11 := blk_frozen X1.out 11
      go_wp2_with fail
      have hz : w.heap.size + 1 < w2.heap.size := blk_lt X1.out
      have hz0 : w.heap.size < w2.heap.size := blk_lt X0.out
      go_quiet (fail)
      go_wp2_with fail
      refine bodyPost_ret (results_ct rfl _ _ (w.heap.size + 1) 32 #[.int .i64 0, .int .i64 0, .int .i64 0, .int .i64 0, .slice none 0 0, .bool false, .bool false, .int .i64 0, .slice none 0 0, .slice none 0 0, .int .i64 0, .int .i64 0] (0, 0) _ rfl (set12 (show ((w2.alloc _).drewN _).heap[w.heap.size + 1]? = _ from blk_alloc X1.out _)) Tryz.underlying32 rfl (by kernel_rfl)) rfl ?_
      exact .inl ⟨HO.out, rfl, below12 (pw_below_drewN (below_alloc BW.out _) _) hle1⟩
    · have hml : ((Q.marks (List.replicate B false) bad).map (Q.freshB P)).length = B := by rw [List.length_map, Q.marks_length, List.length_replicate]
      have x0 := blk_alloc (blk_below X0.out h1) (.cells #[.slice V B d, .bool false, .bool false, .int .i64 0] 28)
      have x1 := blk_alloc (blk_below X1.out h1) (.cells #[.slice V B d, .bool false, .bool false, .int .i64 0] 28)
      have x6 := heap_alloc_new w2 (.cells #[.slice V B d, .bool false, .bool false, .int .i64 0] 28)
      have bb := below_alloc (below_step BW.out h1) (.cells #[.slice V B d, .bool false, .bool false, .int .i64 0] 28)
      have hC := Kd.C_below (Kd.S_reads' hS).2.2 (below_alloc (Below.refl w2.heap.size w2) (.cells #[.slice V B d, .bool false, .bool false, .int .i64 0] 28))
      rw [hml] at hC
      have hz2 : w.heap.size + 1 < w2.heap.size := blk_lt (blk_below X1.out h1)
      clear X0 X1 BW h1 hS
      go_wp2_with fail
      generalize w2.alloc (.cells #[.slice V B d, .bool false, .bool false, .int .i64 0] 28) = W3 at x0 x1 x6 bb hC ⊢
      generalize w2.heap.size = g6 at x6 hz2 ⊢
      have X0 := Aside0.mk x0
      have X1 := Aside0.mk x1
      have X6 := Aside0.mk x6
      have BW := Aside0.mk bb
      have HC := Aside0.mk hC
      have HM := Aside0.mk hml
      clear x0 x1 x6 bb hC hml
      go_cut [29] (fun v29 wc => v29 = .bool (decide (R < (Q.marks (List.replicate B false) bad).count true)) ∧ Aside0 (Below w.heap.size w wc) ∧ Aside0 (wc.heap[w.heap.size]? = some (.cells #[.int .i64 B, .int .i64 P, .int .i64 S, .int .i64 R] 24 (0, 0))) ∧ Aside0 (wc.heap[w.heap.size + 1]? = some (.cells #[.int .i64 0, .int .i64 0, .int .i64 0, .int .i64 0, .slice none 0 0, .bool false, .bool false, .int .i64 0, .slice none 0 0, .slice none 0 0, .int .i64 0, .int .i64 0] 32 (0, 0))) ∧ Aside0 (wc.heap[g6]? = some (.cells #[.slice V B d, .bool false, .bool false, .int .i64 0] 28 (0, 0))) ∧ Aside0 (Kd.C k53 wc V B ((Q.marks (List.replicate B false) bad).map (Q.freshB P))))
      case first =>
        have hcnt := badN_map P (Q.marks (List.replicate B false) bad)
        have hcb : (Q.marks (List.replicate B false) bad).count true ≤ B := by have := badN_le ((Q.marks (List.replicate B false) bad).map (Q.freshB P)); rw [hcnt, HM.out] at this; exact this
        have hcall := fun (W : World) (hW : Below W3.heap.size W3 W) => rbads_calls V d ((Q.marks (List.replicate B false) bad).map (Q.freshB P)) false false 0 W (HM.out.symm ▸ Kd.C_below HC.out hW)
        rw [hcnt, HM.out] at hcall
        have HCALL := Aside0.mk hcall
        clear hcall hcnt
        have d3 : W3.cell? ⟨w.heap.size, 3, none⟩ = some (.int .i64 R) := (blk_cell X0.out 3).trans rfl
        have c0 : W3.cell? ⟨g6, 0, none⟩ = some (.slice V B d) := (blk_cell X6.out 0).trans rfl
        have c1 : W3.cell? ⟨g6, 1, none⟩ = some (.bool false) := (blk_cell X6.out 1).trans rfl
        have c2 : W3.cell? ⟨g6, 2, none⟩ = some (.bool false) := (blk_cell X6.out 2).trans rfl
        have c3 : W3.cell? ⟨g6, 3, none⟩ = some (.int .i64 0) := (blk_cell X6.out 3).trans rfl
        have hb0 := blk_lt X0.out
        have hb6 := blk_lt X6.out
        go_region_with ((go_at_call 27; refine (HCALL.out _ (below_drew (Below.refl _ _))).mono ?_; rintro e w5 ⟨rfl, h5⟩; have u3 : w5.cell? ⟨w.heap.size, 3, none⟩ = some (.int .i64 R) := (h5.cell hb0).trans d3))
        all_goals
          go_wp2_with fail
          go_meet
          case rel => exact ⟨rfl, ⟨below_step (below_drew BW.out) h5⟩, ⟨blk_below (show W3.drew.heap[w.heap.size]? = _ from X0.out) h5⟩, ⟨blk_below (show W3.drew.heap[w.heap.size + 1]? = _ from X1.out) h5⟩, ⟨blk_below (show W3.drew.heap[g6]? = _ from X6.out) h5⟩, ⟨Kd.C_below HC.out (below_step (below_drew (Below.refl _ _)) h5)⟩⟩
      case rest =>
        clear X0 X1 X6 BW HC
        obtain ⟨rfl, BW, X0, X1, X6, HC⟩ := hcut
        by_cases hc : (Q.marks (List.replicate B false) bad).count true ≤ R
        · have hd : decide (R < (Q.marks (List.replicate B false) bad).count true) = false := decide_eq_false (by omega)
          rw [hd]
          have HO := Aside0.mk (show Q.okF B P S R bad = true by unfold Q.okF; rw [HF.out, ho]; simp [hc])
          clear hd hc ho
          have d0 : wc.cell? ⟨w.heap.size, 0, none⟩ = some (.int .i64 B) := (blk_cell X0.out 0).trans rfl
          have d1 : wc.cell? ⟨w.heap.size, 1, none⟩ = some (.int .i64 P) := (blk_cell X0.out 1).trans rfl
          have d2 : wc.cell? ⟨w.heap.size, 2, none⟩ = some (.int .i64 S) := (blk_cell X0.out 2).trans rfl
          have d3 : wc.cell? ⟨w.heap.size, 3, none⟩ = some (.int .i64 R) := (blk_cell X0.out 3).trans rfl
          have c0 : wc.cell? ⟨g6, 0, none⟩ = some (.slice V B d) := (blk_cell X6.out 0).trans rfl
          have c1 : wc.cell? ⟨g6, 1, none⟩ = some (.bool false) := (blk_cell X6.out 1).trans rfl
          have c2 : wc.cell? ⟨g6, 2, none⟩ = some (.bool false) := (blk_cell X6.out 2).trans rfl
          have c3 : wc.cell? ⟨g6, 3, none⟩ = some (.int .i64 0) := (blk_cell X6.out 3).trans rfl
          have hcall := rmount_calls B P S R HF.out V d ((Q.marks (List.replicate B false) bad).map (Q.freshB P)) false false 0 (List.replicate S (-1)) (List.replicate S (-1)) 0 wc (HM.out.symm ▸ HC.out) HM.out (fun x hx => by obtain ⟨m, _, rfl⟩ := List.mem_map.mp hx; simp [Q.freshB])
            (fun w' hw' => rreplay0_calls V d _ false false 0 S (by have h := HF.out; unfold Q.fitsB at h; rw [decide_eq_true_iff] at h; omega) w' (Kd.C_below (HM.out.symm ▸ HC.out) hw') (Q.blank_map P _))
          rw [HM.out, open_none] at hcall
          have HCALL := Aside0.mk hcall
          clear hcall
          go_wp2_with fail
          refine HCALL.out.mono ?_
          clear d0 d1 d2 d3 c0 c1 c2 c3
          rintro e w5 ⟨V', d', M, cm, Y, cy, rfl, hS, hM, hY, h5⟩
          rw [HM.out, List.length_replicate]
          have X1' := Aside0.mk (blk_below X1.out h5)
          have hz5 := blk_lt X1.out
          have s0 : w5.cell? ⟨w.heap.size + 1, 0, none⟩ = some (.int .i64 0) := (blk_cell X1'.out 0).trans rfl
          have s1 : w5.cell? ⟨w.heap.size + 1, 1, none⟩ = some (.int .i64 0) := (blk_cell X1'.out 1).trans rfl
          have s2 : w5.cell? ⟨w.heap.size + 1, 2, none⟩ = some (.int .i64 0) := (blk_cell X1'.out 2).trans rfl
          have s3 : w5.cell? ⟨w.heap.size + 1, 3, none⟩ = some (.int .i64 0) := (blk_cell X1'.out 3).trans rfl
          have s4 : w5.cell? ⟨w.heap.size + 1, 4, none⟩ = some (.slice none 0 0) := (blk_cell X1'.out 4).trans rfl
          have s5 : w5.cell? ⟨w.heap.size + 1, 5, none⟩ = some (.bool false) := (blk_cell X1'.out 5).trans rfl
          have s6 : w5.cell? ⟨w.heap.size + 1, 6, none⟩ = some (.bool false) := (blk_cell X1'.out 6).trans rfl
          have s7 : w5.cell? ⟨w.heap.size + 1, 7, none⟩ = some (.int .i64 0) := (blk_cell X1'.out 7).trans rfl
          have s8 : w5.cell? ⟨w.heap.size + 1, 8, none⟩ = some (.slice none 0 0) := (blk_cell X1'.out 8).trans rfl
          have s9 : w5.cell? ⟨w.heap.size + 1, 9, none⟩ = some (.slice none 0 0) := (blk_cell X1'.out 9).trans rfl
          have s10 : w5.cell? ⟨w.heap.size + 1, 10, none⟩ = some (.int .i64 0) := (blk_cell X1'.out 10).trans rfl
          have s11 : w5.cell? ⟨w.heap.size + 1, 11, none⟩ = some (.int .i64 0) := (blk_cell X1'.out 11).trans rfl
          have r0 := blk_frozen X1'.out 0
          have r1 := blk_frozen X1'.out 1
          have r2 := blk_frozen X1'.out 2
          have r3 := blk_frozen X1'.out 3
          have r4 := blk_frozen X1'.out 4
          have r5 := blk_frozen X1'.out 5
          have r6 := blk_frozen X1'.out 6
          have r7 := blk_frozen X1'.out 7
          have r8 := blk_frozen X1'.out 8
          have r9 := blk_frozen X1'.out 9
          have r10 := blk_frozen X1'.out 10
          have r11 := blk_frozen X1'.out 11
          go_wp2_with fail
          refine bodyPost_ret (results_ct rfl _ _ (w.heap.size + 1) 32 #[.int .i64 B, .int .i64 P, .int .i64 S, .int .i64 R, .slice V' B d', .bool false, .bool false, .int .i64 0, .slice M S cm, .slice Y S cy, .int .i64 0, .int .i64 (-1)] (0, 0) _ rfl (set12 X1'.out) Tryz.underlying32 rfl (by kernel_rfl)) rfl ?_
          have hwc := BW.out.size
          refine .inr ⟨HO.out, V', d', M, cm, Y, cy, by rw [HM.out, List.length_replicate]; rfl, ?_, ?_, ?_, below12 (below_step BW.out h5) hle1⟩
          · exact Kd.S_lower (Kd.S_mono (Kd.S_step (Kd.S_mono (Kd.S_types hS X1'.out (by decide)) (ok' := fun k => k ≠ w.heap.size + 1) (fun _ h => h.2)) (fun k hk _ => keep12 hk)) (fun _ _ => trivial)) hwc
          · exact Kd.R_lower (Kd.R_mono (Kd.R_step (Kd.R_mono (Kd.R_types hM X1'.out (by decide)) (ok' := fun k => k ≠ w.heap.size + 1) (fun _ h => h.2)) (fun k hk _ => keep12 hk)) (fun _ _ => trivial)) hwc
          · exact Kd.R_lower (Kd.R_mono (Kd.R_step (Kd.R_mono (Kd.R_types hY X1'.out (by decide)) (ok' := fun k => k ≠ w.heap.size + 1) (fun _ h => h.2)) (fun k hk _ => keep12 hk)) (fun _ _ => trivial)) hwc
        · have hd : decide (R < (Q.marks (List.replicate B false) bad).count true) = true := decide_eq_true (by omega)
          rw [hd]
          have HO := Aside0.mk (show Q.okF B P S R bad = false by unfold Q.okF; rw [HF.out, ho]; simp [hc])
          clear hd hc ho
          have s0 : wc.cell? ⟨w.heap.size + 1, 0, none⟩ = some (.int .i64 0) := (blk_cell X1.out 0).trans rfl
          have s1 : wc.cell? ⟨w.heap.size + 1, 1, none⟩ = some (.int .i64 0) := (blk_cell X1.out 1).trans rfl
          have s2 : wc.cell? ⟨w.heap.size + 1, 2, none⟩ = some (.int .i64 0) := (blk_cell X1.out 2).trans rfl
          have s3 : wc.cell? ⟨w.heap.size + 1, 3, none⟩ = some (.int .i64 0) := (blk_cell X1.out 3).trans rfl
          have s4 : wc.cell? ⟨w.heap.size + 1, 4, none⟩ = some (.slice none 0 0) := (blk_cell X1.out 4).trans rfl
          have s5 : wc.cell? ⟨w.heap.size + 1, 5, none⟩ = some (.bool false) := (blk_cell X1.out 5).trans rfl
          have s6 : wc.cell? ⟨w.heap.size + 1, 6, none⟩ = some (.bool false) := (blk_cell X1.out 6).trans rfl
          have s7 : wc.cell? ⟨w.heap.size + 1, 7, none⟩ = some (.int .i64 0) := (blk_cell X1.out 7).trans rfl
          have s8 : wc.cell? ⟨w.heap.size + 1, 8, none⟩ = some (.slice none 0 0) := (blk_cell X1.out 8).trans rfl
          have s9 : wc.cell? ⟨w.heap.size + 1, 9, none⟩ = some (.slice none 0 0) := (blk_cell X1.out 9).trans rfl
          have s10 : wc.cell? ⟨w.heap.size + 1, 10, none⟩ = some (.int .i64 0) := (blk_cell X1.out 10).trans rfl
          have s11 : wc.cell? ⟨w.heap.size + 1, 11, none⟩ = some (.int .i64 0) := (blk_cell X1.out 11).trans rfl
          have r0 := blk_frozen X1.out 0
          have r1 := blk_frozen X1.out 1
          have r2 := blk_frozen X1.out 2
          have r3 := blk_frozen X1.out 3
          have r4 := blk_frozen X1.out 4
          have r5 := blk_frozen X1.out 5
          have r6 := blk_frozen X1.out 6
          have r7 := blk_frozen X1.out 7
          have r8 := blk_frozen X1.out 8
          have r9 := blk_frozen X1.out 9
          have r10 := blk_frozen X1.out 10
          have r11 := blk_frozen X1.out 11
          go_wp2_with fail
          refine bodyPost_ret (results_ct rfl _ _ (w.heap.size + 1) 32 #[.int .i64 0, .int .i64 0, .int .i64 0, .int .i64 0, .slice none 0 0, .bool false, .bool false, .int .i64 0, .slice none 0 0, .slice none 0 0, .int .i64 0, .int .i64 0] (0, 0) _ rfl (set12 X1.out) Tryz.underlying32 rfl (by kernel_rfl)) rfl ?_
          exact .inl ⟨HO.out, rfl, below12 BW.out hle1⟩
end Go.Proofs.YtnfappdaoeiilaaGreat.PD
