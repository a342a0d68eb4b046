/- Written for this claim by hand: clinkerref14.Mount of a chip that fits. -/
import Derived.Test.YtnfappdaoeiilaaGreatHOwn
import Derived.Test.YtnfappdaoeiilaaGreatHRefRep0
import Derived.Test.YtnfappdaoeiilaaGreatQA
import Derived.Deep.RegionWith
namespace Go.Proofs.YtnfappdaoeiilaaGreat.PD
open Go.RowKit Go.Proofs.YtnfappdaoeiilaaGreatW.PrintWords Go.Proofs.YtnfappdaoeiilaaGreatW.PrintLast Go.Proofs.YtnfappdaoeiilaaGreatW.PrintMore
set_option linter.unusedVariables false
set_option linter.unusedSimpArgs false

theorem rfits_eq (B P S R : Nat) (h : B ≤ 1000 ∧ P ≤ 1000 ∧ S ≤ 1000 ∧ R ≤ 1000) : clinkerref14_Fits.f B P S R = some (Q.fitsB B P S R) := by
  unfold clinkerref14_Fits.f Q.fitsB
  by_cases h0 : (1 ≤ (B : Int) ∧ (B : Int) ≤ 32) ∧ (2 ≤ (P : Int) ∧ (P : Int) ≤ 16) ∧ (1 ≤ (S : Int) ∧ (S : Int) ≤ 64) ∧ (0 ≤ (R : Int) ∧ (R : Int) ≤ 32)
  · obtain ⟨⟨h1, h2⟩, ⟨h3, h4⟩, ⟨h5, h6⟩, ⟨h7, h8⟩⟩ := h0
    rw [if_pos h1, if_pos h2, if_pos h3, if_pos h4, if_pos h5, if_pos h6, if_pos h7, if_pos h8]
    rw [Q.w64 (x := 2 * (R : Int)) (by omega) (by omega), Q.w64 (x := (B : Int) - 2 * R) (by omega) (by omega), Q.w64 (x := (B : Int) - 2 * R - 3) (by omega) (by omega), Q.w64 (x := 2 * (S : Int)) (by omega) (by omega)]
    have hp : P = 2 ∨ P = 3 ∨ P = 4 ∨ P = 5 ∨ P = 6 ∨ P = 7 ∨ P = 8 ∨ P = 9 ∨ P = 10 ∨ P = 11 ∨ P = 12 ∨ P = 13 ∨ P = 14 ∨ P = 15 ∨ P = 16 := by omega
    have hw : wrap64 (((B : Int) - 2 * R - 3) * P) = ((B : Int) - 2 * R - 3) * P := by
      rcases hp with rfl | rfl | rfl | rfl | rfl | rfl | rfl | rfl | rfl | rfl | rfl | rfl | rfl | rfl | rfl <;> exact Q.w64 (by omega) (by omega)
    rw [hw]
    simp [h1, h2, h3, h4, h5, h6, h7, h8]
  · have e : decide (1 ≤ (B : Int) ∧ (B : Int) ≤ 32 ∧ 2 ≤ (P : Int) ∧ (P : Int) ≤ 16 ∧ 1 ≤ (S : Int) ∧ (S : Int) ≤ 64 ∧ 0 ≤ (R : Int) ∧ (R : Int) ≤ 32 ∧ 2 * (S : Int) < ((B : Int) - 2 * R - 3) * P) = false := by
      rw [decide_eq_false_iff_not]; intro h'; apply h0; omega
    rw [e]
    repeat' (first | (rw [if_neg (by omega)]; done) | (split <;> try rfl))
    all_goals (exfalso; apply h0; omega)

/-- The first block that is written into. -/
def pOpen (P : Nat) (b : S53) : Bool := (!b.f3 && decide (0 < b.f1)) && decide (b.f1 < (P : Int))
theorem idxP_snoc {α : Type} (p : α → Bool) (x : α) : ∀ (l : List α) (i : Nat), idxP p (l ++ [x]) i = if idxP p l i < 0 then (if p x = true then ((i + l.length : Nat) : Int) else -1) else idxP p l i := by
  intro l
  induction l with
  | nil => intro i; simp [idxP]
  | cons y ys ih =>
    intro i
    by_cases h : p y = true
    · simp only [List.cons_append, idxP, h, if_true]
      rw [if_neg (by omega)]
    · simp only [List.cons_append, idxP, h]
      simp only [Bool.false_eq_true, if_false]
      rw [ih (i + 1), show i + 1 + ys.length = i + (y :: ys).length by simp; omega]
section
variable {P k : Nat} {z0 : List S65} {z1 z2 o o' : Int} {z3 : Bool}
theorem op_a (hX : o' = if o < 0 then (if pOpen P ⟨z0, z1, z2, z3⟩ = true then ((k : Nat) : Int) else -1) else o) (hN : o < 0 → o = -1) (h : o < 0) (h3 : z3 = true) : o = o' := by
  have := hN h
  rw [hX, if_pos h, if_neg (by simp [pOpen, h3]), this]
theorem op_b (hX : o' = if o < 0 then (if pOpen P ⟨z0, z1, z2, z3⟩ = true then ((k : Nat) : Int) else -1) else o) (h : o < 0) (h3 : ¬ z3 = true) (h1 : 0 < z1) (h2 : z1 < (P : Int)) : (k : Int) = o' := by
  rw [hX, if_pos h, if_pos (by simp [pOpen, h3, h1, h2])]
theorem op_c (hX : o' = if o < 0 then (if pOpen P ⟨z0, z1, z2, z3⟩ = true then ((k : Nat) : Int) else -1) else o) (hN : o < 0 → o = -1) (h : o < 0) (h2 : (P : Int) ≤ z1) : o = o' := by
  have := hN h
  rw [hX, if_pos h, if_neg (by simp [pOpen]; omega), this]
theorem op_d (hX : o' = if o < 0 then (if pOpen P ⟨z0, z1, z2, z3⟩ = true then ((k : Nat) : Int) else -1) else o) (hN : o < 0 → o = -1) (h : o < 0) (h2 : z1 ≤ 0) : o = o' := by
  have := hN h
  rw [hX, if_pos h, if_neg (by simp [pOpen]; omega), this]
theorem op_e (hX : o' = if o < 0 then (if pOpen P ⟨z0, z1, z2, z3⟩ = true then ((k : Nat) : Int) else -1) else o) (h : 0 ≤ o) : o = o' := by
  rw [hX, if_neg (by omega)]
end
theorem idxP_neg {α : Type} (p : α → Bool) : ∀ (l : List α) (i : Nat), idxP p l i < 0 → idxP p l i = -1 := by
  intro l
  induction l with
  | nil => intro i _; rfl
  | cons x xs ih =>
    intro i h
    by_cases hp : p x = true
    · simp only [idxP, hp, if_true] at h; omega
    · simp only [idxP, hp] at h ⊢; exact ih (i + 1) (by simpa using h)
/-- What Mount leaves: a device whose parts read so. -/
def Mounted (w0 : World) (B P S R : Nat) (l : List S53) (b1 : Bool) (n : Int) (m y : List Int) (s o : Int) (e : Ending) (w' : World) : Prop :=
  ∃ V d M cm Y cy, e = .returned (.tuple #[.agg #[.int .i64 B, .int .i64 P, .int .i64 S, .int .i64 R, .slice V l.length d, .bool b1, .bool false, .int .i64 n, .slice M m.length cm, .slice Y y.length cy, .int .i64 s, .int .i64 o], .int .i64 0]) ∧
    Kd.S k53 53 w' w0.heap.size (fun _ => True) (.slice V l.length d) l ∧ Kd.R (Kd.int .i64) 3 w' w0.heap.size (fun _ => True) (.slice M m.length cm) m ∧ Kd.R (Kd.int .i64) 3 w' w0.heap.size (fun _ => True) (.slice Y y.length cy) y ∧ Below w0.heap.size w0 w'

theorem box1 (w : World) (o o' o3 : Obj) : (((w.alloc o).alloc o').alloc o3).heap[w.heap.size]? = some o := blk_alloc (blk_alloc (heap_alloc_new w o) _) _
theorem box12 (w : World) (o o' o3 : Obj) : (((w.alloc o).alloc o').alloc o3).heap[w.heap.size + 1]? = some o' := blk_alloc (box2 w o o') _
theorem below3 (w : World) (o o' o3 : Obj) : Below w.heap.size w (((w.alloc o).alloc o').alloc o3) := below_alloc (below_alloc (below_alloc (Below.refl _ w) _) _) _
/-- A block of twelve cells, laid anew. -/
theorem set12 {w : World} {g : Nat} {t : TypeId} {u0 u1 u2 u3 u4 u5 u6 u7 u8 u9 u10 u11 v0 v1 v2 v3 v4 v5 v6 v7 v8 v9 v10 v11 : Value} (h : w.heap[g]? = some (.cells #[u0, u1, u2, u3, u4, u5, u6, u7, u8, u9, u10, u11] t (0, 0))) :
    ((((((((((((w.setCell ⟨g, 0, none⟩ v0).setCell ⟨g, 1, none⟩ v1).setCell ⟨g, 2, none⟩ v2).setCell ⟨g, 3, none⟩ v3).setCell ⟨g, 4, none⟩ v4).setCell ⟨g, 5, none⟩ v5).setCell ⟨g, 6, none⟩ v6).setCell ⟨g, 7, none⟩ v7).setCell ⟨g, 8, none⟩ v8).setCell ⟨g, 9, none⟩ v9).setCell ⟨g, 10, none⟩ v10).setCell ⟨g, 11, none⟩ v11).heap[g]? = some (.cells #[v0, v1, v2, v3, v4, v5, v6, v7, v8, v9, v10, v11] t (0, 0)) :=
  blk_put (cs' := #[v0, v1, v2, v3, v4, v5, v6, v7, v8, v9, v10, v11]) (blk_put (cs' := #[v0, v1, v2, v3, v4, v5, v6, v7, v8, v9, v10, u11]) (blk_put (cs' := #[v0, v1, v2, v3, v4, v5, v6, v7, v8, v9, u10, u11]) (blk_put (cs' := #[v0, v1, v2, v3, v4, v5, v6, v7, v8, u9, u10, u11]) (blk_put (cs' := #[v0, v1, v2, v3, v4, v5, v6, v7, u8, u9, u10, u11]) (blk_put (cs' := #[v0, v1, v2, v3, v4, v5, v6, u7, u8, u9, u10, u11]) (blk_put (cs' := #[v0, v1, v2, v3, v4, v5, u6, u7, u8, u9, u10, u11]) (blk_put (cs' := #[v0, v1, v2, v3, v4, u5, u6, u7, u8, u9, u10, u11]) (blk_put (cs' := #[v0, v1, v2, v3, u4, u5, u6, u7, u8, u9, u10, u11]) (blk_put (cs' := #[v0, v1, v2, u3, u4, u5, u6, u7, u8, u9, u10, u11]) (blk_put (cs' := #[v0, v1, u2, u3, u4, u5, u6, u7, u8, u9, u10, u11]) (blk_put (cs' := #[v0, u1, u2, u3, u4, u5, u6, u7, u8, u9, u10, u11]) h 0 v0 rfl) 1 v1 rfl) 2 v2 rfl) 3 v3 rfl) 4 v4 rfl) 5 v5 rfl) 6 v6 rfl) 7 v7 rfl) 8 v8 rfl) 9 v9 rfl) 10 v10 rfl) 11 v11 rfl
theorem keep12 {w : World} {g : Nat} {v0 v1 v2 v3 v4 v5 v6 v7 v8 v9 v10 v11 : Value} {k : Nat} (h : k ≠ g) :
    ((((((((((((w.setCell ⟨g, 0, none⟩ v0).setCell ⟨g, 1, none⟩ v1).setCell ⟨g, 2, none⟩ v2).setCell ⟨g, 3, none⟩ v3).setCell ⟨g, 4, none⟩ v4).setCell ⟨g, 5, none⟩ v5).setCell ⟨g, 6, none⟩ v6).setCell ⟨g, 7, none⟩ v7).setCell ⟨g, 8, none⟩ v8).setCell ⟨g, 9, none⟩ v9).setCell ⟨g, 10, none⟩ v10).setCell ⟨g, 11, none⟩ v11).heap[k]? = w.heap[k]? := by
  rw [Below.heap_setCell _ ⟨g, 11, none⟩ _ k h, Below.heap_setCell _ ⟨g, 10, none⟩ _ k h, Below.heap_setCell _ ⟨g, 9, none⟩ _ k h, Below.heap_setCell _ ⟨g, 8, none⟩ _ k h, Below.heap_setCell _ ⟨g, 7, none⟩ _ k h, Below.heap_setCell _ ⟨g, 6, none⟩ _ k h, Below.heap_setCell _ ⟨g, 5, none⟩ _ k h, Below.heap_setCell _ ⟨g, 4, none⟩ _ k h, Below.heap_setCell _ ⟨g, 3, none⟩ _ k h, Below.heap_setCell _ ⟨g, 2, none⟩ _ k h, Below.heap_setCell _ ⟨g, 1, none⟩ _ k h, Below.heap_setCell _ ⟨g, 0, none⟩ _ k h]
theorem below12 {w0 w : World} {g : Nat} {v0 v1 v2 v3 v4 v5 v6 v7 v8 v9 v10 v11 : Value} (h : Below w0.heap.size w0 w) (hg : w0.heap.size ≤ g) :
    Below w0.heap.size w0 ((((((((((((w.setCell ⟨g, 0, none⟩ v0).setCell ⟨g, 1, none⟩ v1).setCell ⟨g, 2, none⟩ v2).setCell ⟨g, 3, none⟩ v3).setCell ⟨g, 4, none⟩ v4).setCell ⟨g, 5, none⟩ v5).setCell ⟨g, 6, none⟩ v6).setCell ⟨g, 7, none⟩ v7).setCell ⟨g, 8, none⟩ v8).setCell ⟨g, 9, none⟩ v9).setCell ⟨g, 10, none⟩ v10).setCell ⟨g, 11, none⟩ v11) :=
  below_set (below_set (below_set (below_set (below_set (below_set (below_set (below_set (below_set (below_set (below_set (below_set h hg) hg) hg) hg) hg) hg) hg) hg) hg) hg) hg) hg
set_option maxRecDepth 100000 in
set_option maxHeartbeats 2000000 in
theorem rmount_calls (B P S R : Nat) (hf : Q.fitsB B P S R = true) (A : Option Addr) (c : Nat) (l : List S53) (b1 b2 : Bool) (n : Int) (m y : List Int) (s : Int) (w : World) (hA : Kd.C k53 w A l.length l) (hlB : l.length = B) (hp : ∀ x ∈ l, x.f0.length = P)
    (hrep : ∀ w', Below w.heap.size w w' → Calls Tryz.prog 40 #[.agg #[.slice A l.length c, .bool b1, .bool b2, .int .i64 n], .int .i64 S] w' (Tabled w' m y s)) :
    Calls Tryz.prog 16 #[.agg #[.int .i64 B, .int .i64 P, .int .i64 S, .int .i64 R], .agg #[.slice A l.length c, .bool b1, .bool b2, .int .i64 n]] w (Mounted w B P S R l b1 n m y s (idxP (pOpen P) l 0)) := by
  have hr : (1 ≤ B ∧ B ≤ 32) ∧ (2 ≤ P ∧ P ≤ 16) ∧ (1 ≤ S ∧ S ≤ 64) ∧ R ≤ 32 := by unfold Q.fitsB at hf; rw [decide_eq_true_iff] at hf; omega
  have HF := Aside0.mk ((rfits_eq B P S R (by omega)).trans (congrArg some hf))
  have HA := Aside0.mk hA
  have HP := Aside0.mk hp
  have HR := Aside0.mk hrep
  subst hlB
  clear hA hp hrep hf
  go_enter Tryz.func16, Tryz.ntmps16
  go_wp2_with fail
  have hb := below3 w (.cells #[.int .i64 l.length, .int .i64 P, .int .i64 S, .int .i64 R] 24) (.cells #[.slice A l.length c, .bool b1, .bool b2, .int .i64 n] 28) (.cells #[.int .i64 0, .int .i64 0, .int .i64 0, .int .i64 0, .slice none 0 0, .bool false, .bool false, .int .i64 0, .slice none 0 0, .slice none 0 0, .int .i64 0, .int .i64 0] 32)
  have x0 := box1 w (.cells #[.int .i64 l.length, .int .i64 P, .int .i64 S, .int .i64 R] 24) (.cells #[.slice A l.length c, .bool b1, .bool b2, .int .i64 n] 28) (.cells #[.int .i64 0, .int .i64 0, .int .i64 0, .int .i64 0, .slice none 0 0, .bool false, .bool false, .int .i64 0, .slice none 0 0, .slice none 0 0, .int .i64 0, .int .i64 0] 32)
  have x1 := box12 w (.cells #[.int .i64 l.length, .int .i64 P, .int .i64 S, .int .i64 R] 24) (.cells #[.slice A l.length c, .bool b1, .bool b2, .int .i64 n] 28) (.cells #[.int .i64 0, .int .i64 0, .int .i64 0, .int .i64 0, .slice none 0 0, .bool false, .bool false, .int .i64 0, .slice none 0 0, .slice none 0 0, .int .i64 0, .int .i64 0] 32)
  have x2 := box3 w (.cells #[.int .i64 l.length, .int .i64 P, .int .i64 S, .int .i64 R] 24) (.cells #[.slice A l.length c, .bool b1, .bool b2, .int .i64 n] 28) (.cells #[.int .i64 0, .int .i64 0, .int .i64 0, .int .i64 0, .slice none 0 0, .bool false, .bool false, .int .i64 0, .slice none 0 0, .slice none 0 0, .int .i64 0, .int .i64 0] 32)
  generalize ((w.alloc (.cells #[.int .i64 l.length, .int .i64 P, .int .i64 S, .int .i64 R] 24)).alloc (.cells #[.slice A l.length c, .bool b1, .bool b2, .int .i64 n] 28)).alloc (.cells #[.int .i64 0, .int .i64 0, .int .i64 0, .int .i64 0, .slice none 0 0, .bool false, .bool false, .int .i64 0, .slice none 0 0, .slice none 0 0, .int .i64 0, .int .i64 0] 32) = W0 at hb x0 x1 x2 ⊢
  refine (clinkerref14_Fits.calls _ _ _ _ true _ HF.out).mono ?_
  rintro e w1 ⟨rfl, h1⟩
  have X0 := Aside0.mk (blk_below x0 h1)
  have X1 := Aside0.mk (blk_below x1 h1)
  have X2 := Aside0.mk (blk_below x2 h1)
  have BW := Aside0.mk (below_step hb h1)
  clear hb x0 x1 x2 h1
  have c0 : w1.cell? ⟨w.heap.size + 1, 0, none⟩ = some (.slice A l.length c) := (blk_cell X1.out 0).trans rfl
  have d0 : w1.cell? ⟨w.heap.size, 0, none⟩ = some (.int .i64 l.length) := (blk_cell X0.out 0).trans rfl
  go_wp2_with fail
  clear c0 d0
  go_loopg [6, 7] l.length (fun g v i wr => ∃ k : Nat, k ≤ l.length ∧ l.length - k ≤ g ∧ v = .int .i64 (idxP (pOpen P) (l.take k) 0) ∧ i = .int .i64 k ∧ Aside0 (Below w.heap.size w wr) ∧ Aside0 (wr.heap[w.heap.size]? = some (.cells #[.int .i64 l.length, .int .i64 P, .int .i64 S, .int .i64 R] 24 (0, 0))) ∧ Aside0 (wr.heap[w.heap.size + 1]? = some (.cells #[.slice A l.length c, .bool b1, .bool b2, .int .i64 n] 28 (0, 0))) ∧ Aside0 (wr.heap[w.heap.size + 2]? = some (.cells #[.int .i64 0, .int .i64 0, .int .i64 0, .int .i64 0, .slice none 0 0, .bool false, .bool false, .int .i64 0, .slice none 0 0, .slice none 0 0, .int .i64 0, .int .i64 0] 32 (0, 0))))
  case atStart => exact ⟨0, Nat.zero_le _, by omega, rfl, rfl, BW, X0, X1, X2⟩
  case round =>
    clear BW X0 X1 X2
    obtain ⟨k, hk, hg, rfl, rfl, BW, X0, X1, X2⟩ := hrel
    have c0 : wr.cell? ⟨w.heap.size + 1, 0, none⟩ = some (.slice A l.length c) := (blk_cell X1.out 0).trans rfl
    by_cases hlt : k < l.length
    · have hltz : (k : Int) < (l.length : Int) := by omega
      obtain ⟨ad, A0, p0, e, l0, l1, l2, l3, l4, l5⟩ := at_T53 HA.out (k : Int) (by omega) (by omega)
      obtain rfl := e
      rw [Int.toNat_natCast] at l0 l1 l2 l3
      replace l0 := (BW.out.cell (World.block_lt_of_cell? w _ l0)).trans l0
      replace l1 := (BW.out.cell (World.block_lt_of_cell? w _ l1)).trans l1
      replace l2 := (BW.out.cell (World.block_lt_of_cell? w _ l2)).trans l2
      replace l3 := (BW.out.cell (World.block_lt_of_cell? w _ l3)).trans l3
      have hy : Aside0 (l.take (k + 1) = l.take k ++ [rd_T53 l k]) := ⟨by rw [List.take_succ_eq_append_getElem hlt]; congr 1; unfold rd_T53; rw [Int.toNat_natCast, List.getD_eq_getElem?_getD, List.getElem?_eq_getElem hlt]; rfl⟩
      have hm : Aside0 ((rd_T53 l k).f0.length = P) := ⟨HP.out _ (by unfold rd_T53; rw [Int.toNat_natCast, List.getD_eq_getElem?_getD, List.getElem?_eq_getElem hlt]; exact List.getElem_mem hlt)⟩
      clear l4 l5
      generalize rd_T53 l k = z at l0 l1 l2 l3 hy hm
      obtain ⟨z0, z1, z2, z3⟩ := z
      dsimp only at l0 l1 l2 l3 hm
      rw [hm.out] at l0
      have hnx := idxP_snoc (pOpen P) ⟨z0, z1, z2, z3⟩ (l.take k) 0
      rw [← hy.out, List.length_take, Nat.min_eq_left hk, Nat.zero_add] at hnx
      have HX := Aside0.mk hnx
      clear hnx hm hy
      have d1 : wr.cell? ⟨w.heap.size, 1, none⟩ = some (.int .i64 P) := (blk_cell X0.out 1).trans rfl
      have HN := Aside0.mk (idxP_neg (pOpen P) (l.take k) 0)
      generalize idxP (pOpen P) (l.take k) 0 = o at HX HN ⊢
      have hz : w.heap.size < wr.heap.size := blk_lt X0.out
      go_wp2_with fail
      all_goals
        go_roundg (l.length - (k + 1))
        case measure => omega
        case rel =>
          refine ⟨k + 1, by omega, by omega, congrArg (Value.int .i64) ?_, by go_num, ⟨below_alloc BW.out _⟩, ⟨blk_alloc X0.out _⟩, ⟨blk_alloc X1.out _⟩, ⟨blk_alloc X2.out _⟩⟩
          first
            | exact op_e HX.out (by assumption)
            | exact op_b HX.out (by assumption) (by assumption) (by assumption) (by assumption)
            | exact op_a HX.out HN.out (by assumption) (by assumption)
            | exact op_d HX.out HN.out (by assumption) (by assumption)
            | exact op_c HX.out HN.out (by assumption) (by assumption)
    · obtain rfl : k = l.length := by omega
      have hltz : ¬ (l.length : Int) < (l.length : Int) := by omega
      rw [List.take_length]
      have hwr := BW.out.size
      have c1 : wr.cell? ⟨w.heap.size + 1, 1, none⟩ = some (.bool b1) := (blk_cell X1.out 1).trans rfl
      have c2 : wr.cell? ⟨w.heap.size + 1, 2, none⟩ = some (.bool b2) := (blk_cell X1.out 2).trans rfl
      have c3 : wr.cell? ⟨w.heap.size + 1, 3, none⟩ = some (.int .i64 n) := (blk_cell X1.out 3).trans rfl
      have d2 : wr.cell? ⟨w.heap.size, 2, none⟩ = some (.int .i64 S) := (blk_cell X0.out 2).trans rfl
      go_wp2_with fail
      refine (HR.out wr BW.out).mono ?_
      rintro e w2 ⟨M, cm, Y, cy, rfl, hM, hY, h1⟩
      replace X0 := Aside0.mk (blk_below X0.out h1)
      replace X1 := Aside0.mk (blk_below X1.out h1)
      replace X2 := Aside0.mk (blk_below X2.out h1)
      replace BW := Aside0.mk (below_step BW.out h1)
      have HM := Aside0.mk hM
      have HY := Aside0.mk hY
      clear c0 c1 c2 c3 d2 hM hY h1
      go_wp2_with fail
      have bb := below_alloc BW.out (.cells #[.slice M m.length cm, .slice Y y.length cy] 30)
      have xx0 := blk_alloc X0.out (.cells #[.slice M m.length cm, .slice Y y.length cy] 30)
      have xx1 := blk_alloc X1.out (.cells #[.slice M m.length cm, .slice Y y.length cy] 30)
      have xx2 := blk_alloc X2.out (.cells #[.slice M m.length cm, .slice Y y.length cy] 30)
      have xx3 := heap_alloc_new w2 (.cells #[.slice M m.length cm, .slice Y y.length cy] 30)
      have bm := Kd.R_alloc HM.out (.cells #[.slice M m.length cm, .slice Y y.length cy] 30)
      have by_ := Kd.R_alloc HY.out (.cells #[.slice M m.length cm, .slice Y y.length cy] 30)
      have hz2 : w.heap.size + 2 < w2.heap.size := blk_lt X2.out
      generalize w2.alloc (.cells #[.slice M m.length cm, .slice Y y.length cy] 30) = W3 at bb xx0 xx1 xx2 xx3 bm by_ ⊢
      clear HM HY X0 X1 X2 BW
      have hz3 : w2.heap.size < W3.heap.size := blk_lt xx3
      generalize w2.heap.size = g9 at xx3 hz2 hz3 ⊢
      have hz : w.heap.size + 2 < W3.heap.size := by omega
      have X0 := Aside0.mk xx0
      have X1 := Aside0.mk xx1
      have X2 := Aside0.mk xx2
      have X3 := Aside0.mk xx3
      have BW := Aside0.mk bb
      have HM := Aside0.mk bm
      have HY := Aside0.mk by_
      clear xx0 xx1 xx2 xx3 bb bm by_
      have a0 : W3.cell? ⟨w.heap.size, 0, none⟩ = some (.int .i64 l.length) := (blk_cell X0.out 0).trans rfl
      have a1 : W3.cell? ⟨w.heap.size, 1, none⟩ = some (.int .i64 P) := (blk_cell X0.out 1).trans rfl
      have a2 : W3.cell? ⟨w.heap.size, 2, none⟩ = some (.int .i64 S) := (blk_cell X0.out 2).trans rfl
      have a3 : W3.cell? ⟨w.heap.size, 3, none⟩ = some (.int .i64 R) := (blk_cell X0.out 3).trans rfl
      have e0 : W3.cell? ⟨w.heap.size + 1, 0, none⟩ = some (.slice A l.length c) := (blk_cell X1.out 0).trans rfl
      have e1 : W3.cell? ⟨w.heap.size + 1, 1, none⟩ = some (.bool b1) := (blk_cell X1.out 1).trans rfl
      have e2 : W3.cell? ⟨w.heap.size + 1, 2, none⟩ = some (.bool b2) := (blk_cell X1.out 2).trans rfl
      have e3 : W3.cell? ⟨w.heap.size + 1, 3, none⟩ = some (.int .i64 n) := (blk_cell X1.out 3).trans rfl
      have t0 : W3.cell? ⟨g9, 0, none⟩ = some (.slice M m.length cm) := (blk_cell X3.out 0).trans rfl
      have t1 : W3.cell? ⟨g9, 1, none⟩ = some (.slice Y y.length cy) := (blk_cell X3.out 1).trans rfl
      have hg9 : ¬ g9 = w.heap.size + 2 := by omega
      have hg8 : ¬ g9 = w.heap.size + 1 + 1 := by omega
      go_region_with
        ((go_at_call 41; refine (on5_calls A c l b1 b2 n _ (Kd.C_below HA.out (below_drew BW.out)) (by omega) (fun x hx => by have := HP.out x hx; omega)).mono ?_; rintro e w5 ⟨v, rfl, hS, h5⟩; obtain ⟨V, dv, ev⟩ := Kd.S_slice hS; subst ev; have X5 := Aside0.mk (blk_below (show W3.drew.heap[w.heap.size + 2]? = _ from X2.out) h5); have s0 : w5.cell? ⟨w.heap.size + 2, 0, none⟩ = some (.int .i64 0) := (blk_cell X5.out 0).trans rfl; have s1 : w5.cell? ⟨w.heap.size + 2, 1, none⟩ = some (.int .i64 0) := (blk_cell X5.out 1).trans rfl; have s2 : w5.cell? ⟨w.heap.size + 2, 2, none⟩ = some (.int .i64 0) := (blk_cell X5.out 2).trans rfl; have s3 : w5.cell? ⟨w.heap.size + 2, 3, none⟩ = some (.int .i64 0) := (blk_cell X5.out 3).trans rfl; have s4 : w5.cell? ⟨w.heap.size + 2, 4, none⟩ = some (.slice none 0 0) := (blk_cell X5.out 4).trans rfl; have s5 : w5.cell? ⟨w.heap.size + 2, 5, none⟩ = some (.bool false) := (blk_cell X5.out 5).trans rfl; have s6 : w5.cell? ⟨w.heap.size + 2, 6, none⟩ = some (.bool false) := (blk_cell X5.out 6).trans rfl; have s7 : w5.cell? ⟨w.heap.size + 2, 7, none⟩ = some (.int .i64 0) := (blk_cell X5.out 7).trans rfl; have s8 : w5.cell? ⟨w.heap.size + 2, 8, none⟩ = some (.slice none 0 0) := (blk_cell X5.out 8).trans rfl; have s9 : w5.cell? ⟨w.heap.size + 2, 9, none⟩ = some (.slice none 0 0) := (blk_cell X5.out 9).trans rfl; have s10 : w5.cell? ⟨w.heap.size + 2, 10, none⟩ = some (.int .i64 0) := (blk_cell X5.out 10).trans rfl; have s11 : w5.cell? ⟨w.heap.size + 2, 11, none⟩ = some (.int .i64 0) := (blk_cell X5.out 11).trans rfl; have r0 := blk_frozen X5.out 0; have r1 := blk_frozen X5.out 1; have r2 := blk_frozen X5.out 2; have r3 := blk_frozen X5.out 3; have r4 := blk_frozen X5.out 4; have r5 := blk_frozen X5.out 5; have r6 := blk_frozen X5.out 6; have r7 := blk_frozen X5.out 7; have r8 := blk_frozen X5.out 8; have r9 := blk_frozen X5.out 9; have r10 := blk_frozen X5.out 10; have r11 := blk_frozen X5.out 11; have ua0 : w5.cell? ⟨w.heap.size, 0, none⟩ = some (.int .i64 l.length) := (h5.cell (by simp; omega)).trans a0; have ua1 : w5.cell? ⟨w.heap.size, 1, none⟩ = some (.int .i64 P) := (h5.cell (by simp; omega)).trans a1; have ua2 : w5.cell? ⟨w.heap.size, 2, none⟩ = some (.int .i64 S) := (h5.cell (by simp; omega)).trans a2; have ua3 : w5.cell? ⟨w.heap.size, 3, none⟩ = some (.int .i64 R) := (h5.cell (by simp; omega)).trans a3; have ue0 : w5.cell? ⟨w.heap.size + 1, 0, none⟩ = some (.slice A l.length c) := (h5.cell (by simp; omega)).trans e0; have ue1 : w5.cell? ⟨w.heap.size + 1, 1, none⟩ = some (.bool b1) := (h5.cell (by simp; omega)).trans e1; have ue2 : w5.cell? ⟨w.heap.size + 1, 2, none⟩ = some (.bool b2) := (h5.cell (by simp; omega)).trans e2; have ue3 : w5.cell? ⟨w.heap.size + 1, 3, none⟩ = some (.int .i64 n) := (h5.cell (by simp; omega)).trans e3; have ut0 : w5.cell? ⟨g9, 0, none⟩ = some (.slice M m.length cm) := (h5.cell (by simp; omega)).trans t0; have ut1 : w5.cell? ⟨g9, 1, none⟩ = some (.slice Y y.length cy) := (h5.cell (by simp; omega)).trans t1))
      all_goals
        go_wp2_with fail
        refine bodyPost_ret (results_ct rfl _ _ (w.heap.size + 1 + 1) 32 #[.int .i64 l.length, .int .i64 P, .int .i64 S, .int .i64 R, .slice V l.length dv, .bool b1, .bool false, .int .i64 n, .slice M m.length cm, .slice Y y.length cy, .int .i64 s, .int .i64 (idxP (pOpen P) l 0)] (0, 0) _ rfl (set12 X5.out) Tryz.underlying32 rfl (by kernel_rfl)) rfl ?_
        refine ⟨V, dv, M, cm, Y, cy, rfl, ?_, ?_, ?_, below12 (below_step (below_drew BW.out) h5) (by omega)⟩
        · exact Kd.S_lower (Kd.S_mono (Kd.S_step (Kd.S_mono (Kd.S_types hS X5.out (by decide)) (ok' := fun k => k ≠ w.heap.size + 1 + 1) (fun _ h => h.2)) (fun k hk _ => keep12 hk)) (fun _ _ => trivial)) (by show w.heap.size ≤ W3.heap.size; omega)
        · exact Kd.R_lower (Kd.R_mono (Kd.R_step (Kd.R_mono (Kd.R_types (Kd.R_below (Kd.R_drew HM.out) h5) X5.out (by decide)) (ok' := fun k => k ≠ w.heap.size + 1 + 1) (fun _ h => h.2)) (fun k hk _ => keep12 hk)) (fun _ _ => trivial)) hwr
        · exact Kd.R_lower (Kd.R_mono (Kd.R_step (Kd.R_mono (Kd.R_types (Kd.R_below (Kd.R_drew HY.out) h5) X5.out (by decide)) (ok' := fun k => k ≠ w.heap.size + 1 + 1) (fun _ h => h.2)) (fun k hk _ => keep12 hk)) (fun _ _ => trivial)) hwr
end Go.Proofs.YtnfappdaoeiilaaGreat.PD
