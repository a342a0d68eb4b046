/- Written for this claim by hand: clinkerref05.New makes a chip of erased blocks, some of which are marked. -/
import Derived.Test.YtnfappdaoeiilaaGreatHOwn
import Derived.Test.YtnfappdaoeiilaaGreatQB
import Derived.Deep.RegionLaw
namespace Go.Proofs.YtnfappdaoeiilaaGreat.PD
open Go.RowKit Go.Proofs.YtnfappdaoeiilaaGreatW.PrintWords Go.Proofs.YtnfappdaoeiilaaGreatW.PrintLast Go.Proofs.YtnfappdaoeiilaaGreatW.PrintMore
set_option linter.unusedVariables false
set_option linter.unusedSimpArgs false

section
variable {P : Program} {ops : Array Oper} {o : Oper} {a : Act} {Q : Exit → Act → World → Prop} {Kc : Act → World → Prop} {α : Type}
/-- S_app, as a step of a region that draws. -/
theorem S_app_step (d : Kd α) {w0 Wr W : World} (base : Nat) (hw : Region.wanted o (yielded ops a.tmps) = true) (s x : Operand) (t e : TypeId) (z : Value) (bytes : Nat)
    (ho : o.op = .call { callee := .builtin .append, args := #[s, x], argTypes := #[t, t] })
    (ht : P.underlying t = some (.slice e)) (hinfo : (P.info? e).map (fun i => (i.zero, i.size, i.bytes)) = some (some z, d.sz, bytes)) (hz : z.cells.size = d.sz) (hs0 : 0 < d.sz) (hb0 : 0 < bytes)
    (v : Value) (xs : List α) (p : α) (cs : List Value) (hs : a.eval s = v) (hx : a.eval x = .slice (some ⟨W.heap.size, 0, none⟩) 1 1) (hW : Below Wr.heap.size Wr W) (hp : d.M W base (fun k => Wr.heap.size ≤ k) p cs)
    (HO : Kd.S d e Wr base (fun _ => True) v xs) (HB : Below base w0 Wr) (hbase : base ≤ Wr.heap.size) (hl : (xs.length + 1) * bytes ≤ 140737488355328)
    (h : ∀ v1 w1, Kd.S d e w1 base (fun _ => True) v1 (xs ++ [p]) → Below base w0 w1 → W.grownBy w1 v.ownBlock → (v1.ownBlock = v.ownBlock ∨ ∃ b, v1.ownBlock = some b ∧ W.heap.size ≤ b) → Kc (a.put o.dst v1) w1) :
    if Region.wanted o (yielded ops a.tmps) = true then Oper.wp P o a (W.alloc (.cells cs.toArray e)) Kc Q else Kc (a.put o.dst undef) (W.alloc (.cells cs.toArray e)) := by
  have hlt : ∀ k, v.ownBlock = some k → k < Wr.heap.size := fun k hk => by obtain ⟨inner, ho, _⟩ := (Kd.S_R HO).2; exact own_lt ho k hk
  have hO : Kd.S d e W base (fun k => True ∧ ¬ Wr.heap.size ≤ k) v xs := Kd.S_mono (Kd.S_below (Kd.S_bound HO) hW) (fun k hk => ⟨trivial, Nat.not_le.2 hk.2.2.1⟩)
  exact Kd.S_append_step d base hw s x t e z bytes ho ht hinfo hz hs0 hb0 v xs p cs (fun _ => True) (fun k => Wr.heap.size ≤ k) hs hx hp
    (fun k hk => ⟨trivial, fun e => absurd (hlt k e.symm) (Nat.not_lt.2 hk)⟩) (fun _ _ => trivial) hO (below_then HB hbase hW) (Nat.le_trans hbase hW.size) hl h
end
theorem run_make65 (n : Nat) (hn : n ≤ 1000) (W : World) : (Instr.makeSlice 51 (.int .i64 (n : Int)) (.int .i64 (n : Int))).run Tryz.prog W = .ok (.slice (some ⟨W.heap.size, 0, none⟩) n n) (W.alloc (.cells (madeCells #[.bool false, .string ⟨#[]⟩, .string ⟨#[]⟩] (n * 3)) 65)) := by
  obtain ⟨i, hi, hzz⟩ := Option.map_eq_some_iff.1 info65
  simp only [Prod.mk.injEq] at hzz
  obtain ⟨hz, hs, hb⟩ := hzz
  have h := run_make (P := Tryz.prog) W 51 65 i (.agg #[.bool false, .string ⟨#[]⟩, .string ⟨#[]⟩]) Tryz.underlying51 hi hz .i64 .i64 (n : Int) (n : Int) (by omega) (by omega) (by rw [hb]; omega) (by omega)
  rw [hs, Int.toNat_natCast] at h
  exact h
theorem R_made65 (W : World) (base n : Nat) (ok : Nat → Prop) (hb : base ≤ W.heap.size) (hok : ok W.heap.size) (hn : n ≤ 1000) : k65.R 65 (W.alloc (.cells (madeCells #[.bool false, .string ⟨#[]⟩, .string ⟨#[]⟩] (n * 3)) 65)) base ok (.slice (some ⟨W.heap.size, 0, none⟩) n n) (List.replicate n z65) := by
  refine ⟨fun k hk => ?_, (madeCells #[.bool false, .string ⟨#[]⟩, .string ⟨#[]⟩] (n * 3)).toList, ?_, ?_⟩
  · have : W.heap.size = k := by simpa [Value.ownBlock] using hk
    exact this ▸ hok
  · have h := World.ownsRow_lit (base := base) (e := 65) (size := 3) W (madeCells #[.bool false, .string ⟨#[]⟩, .string ⟨#[]⟩] (n * 3)) n hb (by simp [maxLen]; omega) (by simp [size_madeCells])
    rw [List.length_replicate]
    exact h
  · exact Kd.reps_made (z := .agg #[.bool false, .string ⟨#[]⟩, .string ⟨#[]⟩]) rfl (by decide) (k65_mkM _ _ _ z65) n

/-- What New leaves. -/
def NewOut (w0 : World) (B P : Nat) (bad : List Int) (e : Ending) (w' : World) : Prop :=
  (Q.outB bad B = true ∧ e = .returned (.tuple #[.agg #[.slice none 0 0, .bool false, .bool false, .int .i64 0], .int .i64 1]) ∧ Below w0.heap.size w0 w') ∨
  (Q.outB bad B = false ∧ ∃ V d, e = .returned (.tuple #[.agg #[.slice V B d, .bool false, .bool false, .int .i64 0], .int .i64 0]) ∧ Kd.S k53 53 w' w0.heap.size (fun _ => True) (.slice V B d) ((Q.marks (List.replicate B false) bad).map (Q.freshB P)) ∧ Below w0.heap.size w0 w')
theorem marks_snoc (ms : List Bool) (bad : List Int) (j : Nat) (h : j < bad.length) : Q.marks ms (bad.take (j + 1)) = (Q.marks ms (bad.take j)).set (rd bad j).toNat true := by
  rw [List.take_succ_eq_append_getElem h, Q.marks, List.foldl_append, Q.rd_at bad j h]
  rfl
theorem out_at (bad : List Int) (B : Int) (j : Nat) (h : j < bad.length) (hb : rd bad j < 0 ∨ B ≤ rd bad j) : Q.outB bad B = true := by
  unfold Q.outB
  rw [List.any_eq_true]
  refine ⟨bad[j], List.getElem_mem h, ?_⟩
  rw [Q.rd_at bad j h] at hb
  simp; omega
theorem out_none (bad : List Int) (B : Int) (h : ∀ j, j < bad.length → 0 ≤ rd bad j ∧ rd bad j < B) : Q.outB bad B = false := by
  unfold Q.outB
  rw [List.any_eq_false]
  intro x hx
  obtain ⟨j, hj, rfl⟩ := List.getElem_of_mem hx
  have := h j hj
  rw [Q.rd_at bad j hj] at this
  simp; omega
set_option maxRecDepth 100000 in
set_option maxHeartbeats 4000000 in
theorem rnew5_calls (B P : Nat) (hB : 1 ≤ B ∧ B ≤ 32) (hP : 1 ≤ P ∧ P ≤ 16) (A : Option Addr) (c : Nat) (bad : List Int) (w : World) (hA : Kd.C (Kd.int .i64) w A bad.length bad) :
    Calls Tryz.prog 26 #[.int .i64 B, .int .i64 P, .slice A bad.length c] w (NewOut w B P bad) := by
  have hbig : bad.length ≤ 9223372036854775807 := hA.2.1
  have HA := Aside0.mk hA
  clear hA
  have e1 : decide ((B : Int) < 1) = false := by simp; omega
  have e2 : decide ((32 : Int) < (B : Int)) = false := by simp; omega
  have e3 : decide ((P : Int) < 1) = false := by simp; omega
  have e4 : decide ((16 : Int) < (P : Int)) = false := by simp; omega
  have hmk := run_make65 P (by omega)
  go_enter Tryz.func26, Tryz.ntmps26
  go_wp2
  clear e1 e2 e3 e4
  go_loopg [9] B (fun g i wr => ∃ k : Nat, k ≤ B ∧ B - k ≤ g ∧ i = .int .i64 k ∧ Aside0 (Below w.heap.size w wr) ∧ Aside0 (wr.heap[w.heap.size]? = some (.cells #[.slice none 0 0, .bool false, .bool false, .int .i64 0] 28 (0, 0))) ∧ Aside0 (∃ v, wr.heap[w.heap.size + 1]? = some (.cells #[v, .bool false, .bool false, .int .i64 0] 28 (0, 0)) ∧ Kd.S k53 53 wr w.heap.size (fun _ => True) v (List.replicate k (Q.freshB P false))))
  case atStart => exact ⟨0, Nat.zero_le _, by omega, rfl, ⟨((Below.refl _ w).alloc (Nat.le_refl _) _).alloc (by simp) _⟩, ⟨blk_alloc (heap_alloc_new w _) _⟩, ⟨_, box2 w _ _, Kd.S_nil _ _ _ _ _⟩⟩
  case round =>
    obtain ⟨k, hk, hg, rfl, BW, X0, HX⟩ := hrel
    obtain ⟨v, hx1, hS⟩ := HX.out
    obtain ⟨V, d, ev⟩ := Kd.S_slice hS
    rw [List.length_replicate] at ev
    subst ev
    have X1 := Aside0.mk hx1
    have HS := Aside0.mk hS
    clear HX hx1 hS
    have c0 : wr.cell? ⟨w.heap.size + 1, 0, none⟩ = some (.slice V k d) := (blk_cell X1.out 0).trans rfl
    by_cases hlt : k < B
    · have hltz : (k : Int) < (B : Int) := by omega
      have hz : w.heap.size + 1 < wr.heap.size := blk_lt X1.out
      have hz0 : w.heap.size < wr.heap.size := by omega
      go_wp2
      go_region_law ((refine S_app_step k53 (w0 := w) (Wr := wr) w.heap.size (by rfl) _ _ 26 53 (.agg #[.slice none 0 0, .int .i64 0, .int .i64 0, .bool false]) 48 (by rfl) Tryz.underlying26 info53 rfl (by decide) (by omega) (.slice V k d) (List.replicate k (Q.freshB P false)) (Q.freshB P false) [.slice (some ⟨wr.heap.size, 0, none⟩) P P, .int .i64 0, .int .i64 0, .bool false] rfl (by show Value.slice (some ⟨wr.heap.size + 1, 0, none⟩) 1 1 = _; rw [World.size_alloc]; rfl) (below_alloc (below_drew (Below.refl _ _)) _) (k53_mkM _ _ _ (Q.freshB P false) (R_made65 wr.drew w.heap.size P _ BW.out.size (Nat.le_refl _) (by omega))) HS.out BW.out BW.out.size (by simp only [List.length_replicate]; omega) ?_; intro v2 w2 hs hb2 hg2 hat2; rw [← List.replicate_succ'] at hs; obtain ⟨V2, d2, ev2⟩ := Kd.S_slice hs; rw [List.length_replicate] at ev2; subst ev2; have x1 := Aside0.mk (blk_grown (blk_alloc (show wr.drew.heap[w.heap.size + 1]? = _ from X1.out) _) hg2 (Kd.S_ne HS.out X1.out (by decide))); have x0 := Aside0.mk (blk_grown (blk_alloc (show wr.drew.heap[w.heap.size]? = _ from X0.out) _) hg2 (Kd.S_ne HS.out X0.out (by decide))); have q0 : w2.cell? ⟨w.heap.size + 1, 0, none⟩ = some (.slice V k d) := (blk_cell x1.out 0).trans rfl; have f0 := blk_frozen x1.out 0))
      all_goals
        go_wp2
        go_roundg (B - (k + 1))
        case measure => omega
        case rel => exact ⟨k + 1, by omega, by omega, by go_num, ⟨below_set hb2 (by omega)⟩, ⟨blk_far x0.out (by simp) _⟩, ⟨_, blk_set x1.out 0 _, Kd.S_set hs x1.out (by decide) _ _⟩⟩
    · obtain rfl : k = B := by omega
      have hltz : ¬ (k : Int) < (k : Int) := by omega
      go_wp2
      clear c0 hmk
      have h0 : List.replicate k (Q.freshB P false) = (Q.marks (List.replicate k false) (bad.take 0)).map (Q.freshB P) := by rw [List.take_zero]; show _ = List.map _ (List.replicate k false); rw [List.map_replicate]
      rw [h0] at HS
      clear h0
      go_loopg [10] bad.length (fun gg i wr => ∃ j : Nat, j ≤ bad.length ∧ bad.length - j ≤ gg ∧ i = .int .i64 j ∧ Aside0 (Below w.heap.size w wr) ∧ Aside0 (wr.heap[w.heap.size]? = some (.cells #[.slice none 0 0, .bool false, .bool false, .int .i64 0] 28 (0, 0))) ∧ Aside0 (∃ v, wr.heap[w.heap.size + 1]? = some (.cells #[v, .bool false, .bool false, .int .i64 0] 28 (0, 0)) ∧ Kd.S k53 53 wr w.heap.size (fun _ => True) v ((Q.marks (List.replicate k false) (bad.take j)).map (Q.freshB P))) ∧ Aside0 (∀ i, i < j → 0 ≤ rd bad i ∧ rd bad i < k))
      case atStart => exact ⟨0, Nat.zero_le _, by omega, rfl, BW, X0, ⟨_, X1.out, HS.out⟩, ⟨fun i hi => absurd hi (Nat.not_lt_zero _)⟩⟩
      case round =>
        clear BW X0 X1 HS
        obtain ⟨j, hj, hgg, rfl, BW, X0, HX, HI⟩ := hrel
        obtain ⟨v, hx1, hS⟩ := HX.out
        have hml : ((Q.marks (List.replicate k false) (bad.take j)).map (Q.freshB P)).length = k := by rw [List.length_map, Q.marks_length, List.length_replicate]
        obtain ⟨g, d, ev, hgb, hglt, _⟩ := Kd.S_form hS (by omega)
        rw [hml] at ev
        subst ev
        have X1 := Aside0.mk hx1
        have HS := Aside0.mk hS
        clear HX hx1 hS
        have c0 : wr.cell? ⟨w.heap.size + 1, 0, none⟩ = some (.slice (some ⟨g, 0, none⟩) k d) := (blk_cell X1.out 0).trans rfl
        have r0 : wr.cell? ⟨w.heap.size, 0, none⟩ = some (.slice none 0 0) := (blk_cell X0.out 0).trans rfl
        have r1 : wr.cell? ⟨w.heap.size, 1, none⟩ = some (.bool false) := (blk_cell X0.out 1).trans rfl
        have r2 : wr.cell? ⟨w.heap.size, 2, none⟩ = some (.bool false) := (blk_cell X0.out 2).trans rfl
        have r3 : wr.cell? ⟨w.heap.size, 3, none⟩ = some (.int .i64 0) := (blk_cell X0.out 3).trans rfl
        have f0 := blk_frozen X0.out 0
        have f1 := blk_frozen X0.out 1
        have f2 := blk_frozen X0.out 2
        have f3 := blk_frozen X0.out 3
        have hz : w.heap.size + 1 < wr.heap.size := blk_lt X1.out
        have HM := Aside0.mk hml
        clear hml
        by_cases hjt : j < bad.length
        · have hjz : (j : Int) < (bad.length : Int) := by omega
          obtain ⟨ad, e, l0⟩ := Kd.at_int HA.out (j : Int) (by omega) (by omega)
          obtain rfl := e
          rw [Int.toNat_natCast] at l0
          replace l0 := (BW.out.cell (World.block_lt_of_cell? w _ l0)).trans l0
          have hx : Aside0 (rd bad j = rd bad j) := ⟨rfl⟩
          have HO := Aside0.mk (out_at bad k j hjt)
          have HN := Aside0.mk (marks_snoc (List.replicate k false) bad j hjt)
          generalize hxe : rd bad j = x at l0 HO HN
          have HE := Aside0.mk hxe
          clear hxe hx
          by_cases hx0 : x < 0
          · have e5 : decide (x < 0) = true := decide_eq_true hx0
            go_wp2
            refine bodyPost_ret (results_ct rfl _ _ w.heap.size 28 #[.slice none 0 0, .bool false, .bool false, .int .i64 0] (0, 0) _ rfl (blk_set (blk_set (blk_set (blk_set X0.out 0 _) 1 _) 2 _) 3 _) Tryz.underlying28 rfl (by kernel_rfl)) rfl ?_
            exact .inl ⟨HO.out (.inl hx0), rfl, below_set (below_set (below_set (below_set BW.out (Nat.le_refl _)) (Nat.le_refl _)) (Nat.le_refl _)) (Nat.le_refl _)⟩
          · have e5 : decide (x < 0) = false := decide_eq_false hx0
            by_cases hx1 : (k : Int) ≤ x
            · have e6 : decide ((k : Int) ≤ x) = true := decide_eq_true hx1
              go_wp2
              refine bodyPost_ret (results_ct rfl _ _ w.heap.size 28 #[.slice none 0 0, .bool false, .bool false, .int .i64 0] (0, 0) _ rfl (blk_set (blk_set (blk_set (blk_set X0.out 0 _) 1 _) 2 _) 3 _) Tryz.underlying28 rfl (by kernel_rfl)) rfl ?_
              exact .inl ⟨HO.out (.inr hx1), rfl, below_set (below_set (below_set (below_set BW.out (Nat.le_refl _)) (Nat.le_refl _)) (Nat.le_refl _)) (Nat.le_refl _)⟩
            · have e6 : decide ((k : Int) ≤ x) = false := decide_eq_false hx1
              clear r0 r1 r2 r3 f0 f1 f2 f3 HO
              go_wp2
              obtain ⟨X, rfl⟩ := Int.eq_ofNat_of_zero_le (by omega : 0 ≤ x)
              have hX : X < k := by omega
              have hXz : (X : Int) < (k : Int) := by omega
              obtain ⟨oki, ce, hcl, hM, hcc, hfr, hoki, hH⟩ := Kd.S_elem (ok := fun k_ => True ∧ ¬ (fun _ => False) k_) (Kd.S_mono HS.out (fun _ _ => ⟨trivial, fun h => h⟩)) z53 (X : Int) (by omega) (by omega)
              have hgd := Q.rd_map P (Q.marks (List.replicate k false) (bad.take j)) X (by rw [Q.marks_length, List.length_replicate]; exact hX)
              unfold rd_T53 at hgd
              rw [hgd] at hM
              clear hgd
              generalize (Q.marks (List.replicate k false) (bad.take j)).getD X false = ob at hM
              obtain ⟨ve, rfl, hve⟩ := k53_openM hM
              rw [Int.toNat_natCast] at hcc hfr
              have g3 := hcc 3 _ rfl
              have fr3 := hfr 3
              have hP := (Kd.S_seg hH (by omega) (by omega) (seg := [.bool true]) (j := 3) (show 4 ≤ 4 from by decide) (x' := Q.freshB P true) (k53_mkM _ _ _ (Q.freshB P true) (v0 := ve) hve) (fun _ hk => Or.inl hk) (fun _ hk => hk.elim)).1
              rw [Int.toNat_natCast] at hP
              have HP := Aside0.mk hP
              have hsz : k53.sz = 4 := rfl
              rw [hsz] at g3 fr3
              clear hcl hM hcc hfr hoki hH hve hP hsz
              go_region
              go_wp2
              go_roundg (bad.length - (j + 1))
              case measure => omega
              case rel =>
                have hn0 : w.heap.size ≠ g := fun e => Kd.S_ne HS.out X0.out (by decide) (by simp [Value.ownBlock, e])
                have hn1 : w.heap.size + 1 ≠ g := fun e => Kd.S_ne HS.out X1.out (by decide) (by simp [Value.ownBlock, e])
                refine ⟨j + 1, by omega, by omega, by go_num, ⟨below_drew (below_set BW.out hgb)⟩, ⟨blk_far X0.out hn0 _⟩, ⟨.slice (some ⟨g, 0, none⟩) k d, blk_far X1.out hn1 _, ?_⟩, ⟨fun i hi => ?_⟩⟩
                · have hs := Kd.S_drew HP.out
                  rw [Q.set_map P _ X (by rw [Q.marks_length, List.length_replicate]; exact hX)] at hs
                  rw [HN.out, Int.toNat_natCast]
                  exact hs
                · by_cases hij : i = j
                  · subst hij; rw [HE.out]; omega
                  · exact HI.out i (by omega)
        · obtain rfl : j = bad.length := by omega
          have hjz : ¬ (bad.length : Int) < (bad.length : Int) := by omega
          have c1 : wr.cell? ⟨w.heap.size + 1, 1, none⟩ = some (.bool false) := (blk_cell X1.out 1).trans rfl
          have c2 : wr.cell? ⟨w.heap.size + 1, 2, none⟩ = some (.bool false) := (blk_cell X1.out 2).trans rfl
          have c3 : wr.cell? ⟨w.heap.size + 1, 3, none⟩ = some (.int .i64 0) := (blk_cell X1.out 3).trans rfl
          go_wp2
          refine bodyPost_ret (results_ct rfl _ _ w.heap.size 28 #[.slice (some ⟨g, 0, none⟩) k d, .bool false, .bool false, .int .i64 0] (0, 0) _ rfl (blk_set (blk_set (blk_set (blk_set X0.out 0 _) 1 _) 2 _) 3 _) Tryz.underlying28 rfl (by kernel_rfl)) rfl ?_
          refine .inr ⟨out_none bad k HI.out, some ⟨g, 0, none⟩, d, rfl, ?_, below_set (below_set (below_set (below_set BW.out (Nat.le_refl _)) (Nat.le_refl _)) (Nat.le_refl _)) (Nat.le_refl _)⟩
          have hs := HS.out
          rw [List.take_length] at hs
          have hd : ∀ q, q ∈ 53 :: k53.E → q ≠ 28 := by decide
          exact Kd.S_set (Kd.S_set (Kd.S_set (Kd.S_set hs X0.out hd 0 _) (blk_set X0.out 0 _) hd 1 _) (blk_set (blk_set X0.out 0 _) 1 _) hd 2 _) (blk_set (blk_set (blk_set X0.out 0 _) 1 _) 2 _) hd 3 _
end Go.Proofs.YtnfappdaoeiilaaGreat.PD
