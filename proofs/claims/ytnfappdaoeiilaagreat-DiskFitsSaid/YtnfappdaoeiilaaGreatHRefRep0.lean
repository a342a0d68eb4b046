/- Written for this claim by hand: the table of a chip of which no page is written, by the document: nothing is known of any sector. -/
import Derived.Test.YtnfappdaoeiilaaGreatHRefAll0
import Derived.Test.YtnfappdaoeiilaaGreatPDx5
namespace Go.Proofs.YtnfappdaoeiilaaGreat.PD
open Go.RowKit Go.Proofs.YtnfappdaoeiilaaGreatW.PrintWords Go.Proofs.YtnfappdaoeiilaaGreatW.PrintLast Go.Proofs.YtnfappdaoeiilaaGreatW.PrintMore
set_option linter.unusedVariables false
set_option linter.unusedSimpArgs false

theorem rnew_l0 (S : Nat) (hS : S ≤ 64) : ∀ (d j : Nat), d = S - j → j ≤ S → clinkerref07_New.l0 (d + 1) (S : Int) (j : Int) (List.replicate j (-1)) (List.replicate j (-1)) = some (List.replicate S (-1), List.replicate S (-1)) := by
  intro d
  induction d with
  | zero => intro j hd hj; obtain rfl : j = S := by omega
            rw [clinkerref07_New.l0, if_neg (by omega)]
  | succ d ih =>
    intro j hd hj
    have hw : wrap64 ((j : Int) + 1) = ((j + 1 : Nat) : Int) := by unfold wrap64; omega
    rw [clinkerref07_New.l0, if_pos (by omega), if_pos (by omega), if_pos (by simp; omega), if_pos (by simp; omega), hw, ← List.replicate_succ']
    exact ih (j + 1) (by omega) (by omega)

/-- What a Replay of a chip leaves: a table that reads as m and y, and the next number s. -/
def Tabled (w0 : World) (m y : List Int) (s : Int) (e : Ending) (w' : World) : Prop :=
  ∃ M cm Y cy, e = .returned (.tuple #[.agg #[.slice M m.length cm, .slice Y y.length cy], .int .i64 s]) ∧ Kd.R (Kd.int .i64) 3 w' w0.heap.size (fun _ => True) (.slice M m.length cm) m ∧ Kd.R (Kd.int .i64) 3 w' w0.heap.size (fun _ => True) (.slice Y y.length cy) y ∧ Below w0.heap.size w0 w'

set_option maxRecDepth 100000 in
set_option maxHeartbeats 2000000 in
theorem rreplay0_calls (A : Option Addr) (c : Nat) (l : List S53) (b1 b2 : Bool) (n : Int) (S : Nat) (hS : S ≤ 64) (w : World) (hA : Kd.C k53 w A l.length l) (hbl : blank l = true) :
    Calls Tryz.prog 40 #[.agg #[.slice A l.length c, .bool b1, .bool b2, .int .i64 n], .int .i64 S] w (Tabled w (List.replicate S (-1)) (List.replicate S (-1)) 0) := by
  have HA := Aside0.mk hA
  have HZ := Aside0.mk hbl
  clear hA hbl
  go_enter Tryz.func40, Tryz.ntmps40
  go_wp2_with fail
  have hb : Below w.heap.size w ((w.alloc (.cells #[.slice A l.length c, .bool b1, .bool b2, .int .i64 n] 28)).alloc (.cells #[.slice none 0 0, .slice none 0 0] 30)) := ((Below.refl _ w).alloc (Nat.le_refl _) _).alloc (by simp) _
  have x0 : ((w.alloc (.cells #[.slice A l.length c, .bool b1, .bool b2, .int .i64 n] 28)).alloc (.cells #[.slice none 0 0, .slice none 0 0] 30)).heap[w.heap.size]? = some _ := blk_alloc (heap_alloc_new w _) _
  have x1 := box2 w (.cells #[.slice A l.length c, .bool b1, .bool b2, .int .i64 n] 28) (.cells #[.slice none 0 0, .slice none 0 0] 30)
  have hs : ((w.alloc (.cells #[.slice A l.length c, .bool b1, .bool b2, .int .i64 n] 28)).alloc (.cells #[.slice none 0 0, .slice none 0 0] 30)).heap.size = w.heap.size + 2 := by simp
  generalize (w.alloc (.cells #[.slice A l.length c, .bool b1, .bool b2, .int .i64 n] 28)).alloc (.cells #[.slice none 0 0, .slice none 0 0] 30) = W0 at hb x0 x1 hs ⊢
  refine (clinkerref07_New.calls (S + 1) (S : Int) _ _ W0 (rnew_l0 S hS S 0 rfl (by omega))).mono ?_
  rintro e w1 ⟨v0, v1, rfl, hr0, hr1, h1⟩
  obtain ⟨M, cm, e0⟩ := Kd.R_slice hr0
  obtain ⟨Y, cy, e1⟩ := Kd.R_slice hr1
  rw [List.length_replicate] at e0 e1
  subst e0 e1
  have hM := Kd.R_mono (Kd.R_bound hr0) (ok' := fun _ => True) (fun _ _ => trivial)
  have hY := Kd.R_mono (Kd.R_bound hr1) (ok' := fun _ => True) (fun _ _ => trivial)
  clear hr0 hr1
  have X0 := Aside0.mk (blk_below x0 h1)
  have X1 := Aside0.mk (blk_below x1 h1)
  have BW := Aside0.mk (below_step hb h1)
  have HM := Aside0.mk hM
  have HY := Aside0.mk hY
  have hs1 := Nat.le_trans (Nat.le_of_eq hs.symm) h1.size
  clear hb x0 x1 h1 hM hY
  have hz : w.heap.size + 1 < w1.heap.size := by omega
  have hz0 : w.heap.size < w1.heap.size := by omega
  have c0 : w1.cell? ⟨w.heap.size, 0, none⟩ = some (.slice A l.length c) := (blk_cell X0.out 0).trans rfl
  have c1 : w1.cell? ⟨w.heap.size, 1, none⟩ = some (.bool b1) := (blk_cell X0.out 1).trans rfl
  have c2 : w1.cell? ⟨w.heap.size, 2, none⟩ = some (.bool b2) := (blk_cell X0.out 2).trans rfl
  have c3 : w1.cell? ⟨w.heap.size, 3, none⟩ = some (.int .i64 n) := (blk_cell X0.out 3).trans rfl
  go_wp2_with fail
  clear c0 c1 c2 c3
  have bb := below_alloc BW.out (.cells #[.slice M S cm, .slice Y S cy] 30)
  have bm := Kd.R_alloc HM.out (.cells #[.slice M S cm, .slice Y S cy] 30)
  have by_ := Kd.R_alloc HY.out (.cells #[.slice M S cm, .slice Y S cy] 30)
  have xx := heap_alloc_new w1 (.cells #[.slice M S cm, .slice Y S cy] 30)
  have xx1 := blk_alloc X1.out (.cells #[.slice M S cm, .slice Y S cy] 30)
  generalize w1.alloc (.cells #[.slice M S cm, .slice Y S cy] 30) = W1 at bb bm by_ xx xx1 ⊢
  clear HM HY X0 X1 BW
  refine (rall0_calls A c l b1 b2 n W1 (Kd.C_below HA.out bb) HZ.out).mono ?_
  rintro e w2 ⟨rfl, h1⟩
  have HM := Aside0.mk (Kd.R_below bm h1)
  have HY := Aside0.mk (Kd.R_below by_ h1)
  have X1 := Aside0.mk (blk_below xx1 h1)
  have X2 := Aside0.mk (blk_below xx h1)
  have BW := Aside0.mk (below_step bb h1)
  clear bb bm by_ xx xx1 h1
  have hne : w1.heap.size ≠ w.heap.size + 1 := by omega
  have hne' : w.heap.size + 1 ≠ w1.heap.size := by omega
  have c0 : w2.cell? ⟨w1.heap.size, 0, none⟩ = some (.slice M S cm) := (blk_cell X2.out 0).trans rfl
  have c1 : w2.cell? ⟨w1.heap.size, 1, none⟩ = some (.slice Y S cy) := (blk_cell X2.out 1).trans rfl
  have d0 : w2.cell? ⟨w.heap.size + 1, 0, none⟩ = some (.slice none 0 0) := (blk_cell X1.out 0).trans rfl
  have d1 : w2.cell? ⟨w.heap.size + 1, 1, none⟩ = some (.slice none 0 0) := (blk_cell X1.out 1).trans rfl
  have f0 := blk_frozen X1.out 0
  have f1 := blk_frozen X1.out 1
  go_wp2_with fail
  refine wp_loop_rounds 1 ?_
  rw [rounds_succ]
  go_wp2_with fail
  refine bodyPost_ret (results_ct rfl _ _ (w.heap.size + 1) 30 #[.slice M S cm, .slice Y S cy] (0, 0) _ rfl (blk_set (blk_set X1.out 0 _) 1 _) Tryz.underlying30 rfl (by kernel_rfl)) rfl ?_
  have hB := below_set (g := w.heap.size + 1) (j := 1) (v := .slice Y S cy) (below_set (g := w.heap.size + 1) (j := 0) (v := .slice M S cm) BW.out (Nat.le_succ _)) (Nat.le_succ _)
  have hm := Kd.R_far (p := ⟨w.heap.size + 1, 1, none⟩) (Kd.R_far (p := ⟨w.heap.size + 1, 0, none⟩) (Kd.R_types HM.out X1.out (by decide)) (fun _ h => h.2) (.slice M S cm)) (fun _ h => h.2) (.slice Y S cy)
  have hy := Kd.R_far (p := ⟨w.heap.size + 1, 1, none⟩) (Kd.R_far (p := ⟨w.heap.size + 1, 0, none⟩) (Kd.R_types HY.out X1.out (by decide)) (fun _ h => h.2) (.slice M S cm)) (fun _ h => h.2) (.slice Y S cy)
  refine ⟨M, cm, Y, cy, by rw [List.length_replicate]; rfl, ?_, ?_, hB⟩
  · rw [List.length_replicate]; exact Kd.R_lower (Kd.R_mono hm (fun _ _ => trivial)) (by omega)
  · rw [List.length_replicate]; exact Kd.R_lower (Kd.R_mono hy (fun _ _ => trivial)) (by omega)
end Go.Proofs.YtnfappdaoeiilaaGreat.PD
