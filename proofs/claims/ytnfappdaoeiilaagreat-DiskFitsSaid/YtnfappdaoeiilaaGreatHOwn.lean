/- Written for this claim by hand: clinkerref05.Own and clinkerref05.On make a chip in memory of its own that holds what the given one holds. -/
import Derived.Test.YtnfappdaoeiilaaGreatHSameA
namespace Go.Proofs.YtnfappdaoeiilaaGreat.PD
open Go.RowKit Go.Proofs.YtnfappdaoeiilaaGreatW.PrintWords Go.Proofs.YtnfappdaoeiilaaGreatW.PrintLast Go.Proofs.YtnfappdaoeiilaaGreatW.PrintMore
set_option linter.unusedVariables false
set_option linter.unusedSimpArgs false

section
variable {P : Program} {ops : Array Oper} {rest : List Oper} {o : Oper} {a : Act} {Q : Exit → Act → World → Prop} {α : Type}
/-- One more at a row's end, all of which was made since Wr. -/
theorem S_app (d : Kd α) {w0 Wr W : World} (base : Nat) (hgd : o.guard = none) (s x : Operand) (t e : TypeId) (z : Value) (bytes : Nat)
    (ho : o.op = .call { callee := .builtin .append, args := #[s, x], argTypes := #[t, t] })
    (ht : P.underlying t = some (.slice e)) (hinfo : (P.info? e).map (fun i => (i.zero, i.size, i.bytes)) = some (some z, d.sz, bytes)) (hz : z.cells.size = d.sz) (hs0 : 0 < d.sz) (hb0 : 0 < bytes)
    (v : Value) (xs : List α) (p : α) (cs : List Value) (hs : a.eval s = v) (hx : a.eval x = .slice (some ⟨W.heap.size, 0, none⟩) 1 1) (hW : Below Wr.heap.size Wr W) (hp : d.M W base (fun k => Wr.heap.size ≤ k) p cs)
    (HO : Kd.S d e Wr base (fun _ => True) v xs) (HB : Below base w0 Wr) (hbase : base ≤ Wr.heap.size) (hl : (xs.length + 1) * bytes ≤ 140737488355328)
    (h : ∀ v1 w1, Kd.S d e w1 base (fun _ => True) v1 (xs ++ [p]) → Below base w0 w1 → W.grownBy w1 v.ownBlock → (v1.ownBlock = v.ownBlock ∨ ∃ b, v1.ownBlock = some b ∧ W.heap.size ≤ b) → wpList P ops Q rest (a.put o.dst v1) w1) :
    wpList P ops Q (o :: rest) a (W.alloc (.cells cs.toArray e)) := by
  have hlt : ∀ k, v.ownBlock = some k → k < Wr.heap.size := fun k hk => by obtain ⟨inner, ho, _⟩ := (Kd.S_R HO).2; exact own_lt ho k hk
  have hO : Kd.S d e W base (fun k => True ∧ ¬ Wr.heap.size ≤ k) v xs := Kd.S_mono (Kd.S_below (Kd.S_bound HO) hW) (fun k hk => ⟨trivial, Nat.not_le.2 hk.2.2.1⟩)
  exact Kd.S_append d base hgd s x t e z bytes ho ht hinfo hz hs0 hb0 v xs p cs (fun _ => True) (fun k => Wr.heap.size ≤ k) hs hx hp
    (fun k hk => ⟨trivial, fun e => absurd (hlt k e.symm) (Nat.not_lt.2 hk)⟩) (fun _ _ => trivial) hO (below_then HB hbase hW) (Nat.le_trans hbase hW.size) hl h
end
set_option maxRecDepth 100000 in
set_option maxHeartbeats 2000000 in
theorem own5_calls (A : Option Addr) (c : Nat) (l : List S53) (b1 b2 : Bool) (n : Int) (w : World) (hA : Kd.C k53 w A l.length l) (hl : l.length < 1000000) (hp : ∀ x ∈ l, x.f0.length < 1000000) :
    Calls Tryz.prog 23 #[.agg #[.slice A l.length c, .bool b1, .bool b2, .int .i64 n]] w fun e w' => ∃ v : Value, e = .returned (.agg #[v, .bool b1, .bool b2, .int .i64 n]) ∧ Kd.S k53 53 w' w.heap.size (fun _ => True) v l ∧ Below w.heap.size w w' := by
  have HA := Aside0.mk hA
  have HP := Aside0.mk hp
  clear hA hp
  go_enter Tryz.func23, Tryz.ntmps23
  go_wp2
  go_loopg [3, 4] l.length (fun g v i wr => ∃ k : Nat, k ≤ l.length ∧ l.length - k ≤ g ∧ i = .int .i64 k ∧ Aside0 (Below w.heap.size w wr) ∧ Aside0 (Kd.S k53 53 wr w.heap.size (fun _ => True) v (l.take k)) ∧ Aside0 (wr.heap[w.heap.size]? = some (.cells #[.slice A l.length c, .bool b1, .bool b2, .int .i64 n] 28 (0, 0))) ∧ Aside0 (wr.heap[w.heap.size + 1]? = some (.cells #[.slice none 0 0, .bool false, .bool false, .int .i64 0] 28 (0, 0))))
  case atStart => exact ⟨0, Nat.zero_le _, by omega, rfl, ⟨((Below.refl _ w).alloc (Nat.le_refl _) _).alloc (by simp) _⟩, ⟨Kd.S_nil _ _ _ _ _⟩, ⟨blk_alloc (heap_alloc_new w _) _⟩, ⟨box2 w _ _⟩⟩
  case round =>
    obtain ⟨k, hk, hg, rfl, BW, HO, X0, X1⟩ := hrel
    have c0 : wr.cell? ⟨w.heap.size, 0, none⟩ = some (.slice A l.length c) := (blk_cell X0.out 0).trans rfl
    by_cases hlt : k < l.length
    · have hltz : (k : Int) < (l.length : Int) := by omega
      obtain ⟨ad, A0, p0, e, l0, l1, l2, l3, l4, l5⟩ := at_T53 HA.out (k : Int) (by omega) (by omega)
      obtain rfl := e
      rw [Int.toNat_natCast] at l0 l1 l2 l3
      replace l0 := (BW.out.cell (World.block_lt_of_cell? w _ l0)).trans l0
      replace l1 := (BW.out.cell (World.block_lt_of_cell? w _ l1)).trans l1
      replace l2 := (BW.out.cell (World.block_lt_of_cell? w _ l2)).trans l2
      replace l3 := (BW.out.cell (World.block_lt_of_cell? w _ l3)).trans l3
      have L5 := Aside0.mk l5
      have hy : Aside0 (l.take (k + 1) = l.take k ++ [rd_T53 l k]) := ⟨by rw [List.take_succ_eq_append_getElem hlt]; congr 1; unfold rd_T53; rw [Int.toNat_natCast, List.getD_eq_getElem?_getD, List.getElem?_eq_getElem hlt]; rfl⟩
      have hm : (rd_T53 l k).f0.length < 1000000 := HP.out _ (by unfold rd_T53; rw [Int.toNat_natCast, List.getD_eq_getElem?_getD, List.getElem?_eq_getElem hlt]; exact List.getElem_mem hlt)
      clear l4 l5
      generalize rd_T53 l k = y at l0 l1 l2 l3 L5 hy hm
      obtain ⟨y0, y1, y2, y3⟩ := y
      dsimp only at l0 l1 l2 l3 L5 hm
      go_wp2_with (first
        | ((with_reducible refine gate_builtin (b := .append) (xs := #[.const (.slice none 0 0), .tmp 19]) rfl ?_); at_builtin
           refine Kd.R_append_rows k65 (w0 := wr) wr.heap.size rfl (.const (.slice none 0 0)) (.tmp 19) 51 65 (.agg #[.bool false, .string ⟨#[]⟩, .string ⟨#[]⟩]) 40 rfl Tryz.underlying51 info65 rfl (by decide) (by omega) (.slice none 0 0) [] y0 _ _ _ (fun _ => True) (fun _ => False) rfl rfl (Kd.R_nil _ _ _ _ _) (Kd.C_below L5.out (below_alloc BW.out _)) (fun _ _ h => h) (fun _ h => h.elim) (fun _ _ => trivial) (below_alloc (Below.refl _ _) _) (below_size (below_alloc (Below.refl _ _) _)) (by simp only [List.length_nil]; omega) ?_
           intro v1 w1 hr hb hgr hat
           rw [List.nil_append] at hr
           have x5 := blk_grown (heap_alloc_new wr _) hgr (by simp [Value.ownBlock])
           have X5 := Aside0.mk x5
           have HR := Aside0.mk hr
           have HB := Aside0.mk hb
           obtain ⟨B1, d1, e1⟩ := Kd.R_slice hr
           subst e1
           clear hr hb hgr hat x5
           have q0 : w1.cell? ⟨wr.heap.size, 0, none⟩ = some (.slice A0 y0.length p0) := (blk_cell X5.out 0).trans rfl
           have q1 : w1.cell? ⟨wr.heap.size, 1, none⟩ = some (.int .i64 y1) := (blk_cell X5.out 1).trans rfl
           have q2 : w1.cell? ⟨wr.heap.size, 2, none⟩ = some (.int .i64 y2) := (blk_cell X5.out 2).trans rfl
           have q3 : w1.cell? ⟨wr.heap.size, 3, none⟩ = some (.bool y3) := (blk_cell X5.out 3).trans rfl
           have f0 := blk_frozen X5.out 0)
        | ((with_reducible refine gate_builtin (b := .append) (xs := #[.tmp 22, .tmp 24]) rfl ?_); at_builtin
           refine S_app k53 (w0 := w) (Wr := wr) w.heap.size rfl (.tmp 22) (.tmp 24) 26 53 (.agg #[.slice none 0 0, .int .i64 0, .int .i64 0, .bool false]) 48 rfl Tryz.underlying26 info53 rfl (by decide) (by omega) _ (l.take k) ⟨y0, y1, y2, y3⟩ [.slice B1 y0.length d1, .int .i64 y1, .int .i64 y2, .bool y3] rfl ?c0 ?c1 ?c2 HO.out BW.out BW.out.size ?c3 ?_
           case c0 => show Value.slice (some ⟨w1.heap.size, 0, none⟩) 1 1 = _; rw [World.size_setCell]
           case c1 => exact below_set HB.out (Nat.le_refl _)
           case c2 => exact k53_mkM _ _ _ ⟨y0, y1, y2, y3⟩ (Kd.R_mono (Kd.R_lower (Kd.R_bound (Kd.R_far (p := ⟨wr.heap.size, 0, none⟩) (Kd.R_types HR.out X5.out (by decide)) (fun _ hk => hk.2) _)) BW.out.size) (fun _ hk => hk.2.1))
           case c3 => simp only [List.length_take]; omega
           intro v2 w2 hs hb2 hg2 hat2
           have HS := Aside0.mk hs
           have HB2 := Aside0.mk hb2
           have x0 := Aside0.mk (blk_grown (blk_below X0.out (below_set HB.out (Nat.le_refl _))) hg2 (Kd.S_ne HO.out X0.out (by decide)))
           have x1 := Aside0.mk (blk_grown (blk_below X1.out (below_set HB.out (Nat.le_refl _))) hg2 (Kd.S_ne HO.out X1.out (by decide)))
           clear hs hb2 hg2 hat2))
      go_roundg (l.length - (k + 1))
      case measure => omega
      case rel => exact ⟨k + 1, by omega, by omega, by go_num, HB2, ⟨by rw [hy.out]; exact HS.out⟩, x0, x1⟩
    · obtain rfl : k = l.length := by omega
      have hltz : ¬ (l.length : Int) < (l.length : Int) := by omega
      have e0 := Aside0.mk HO.out
      obtain ⟨B1, dd, e1⟩ := Kd.S_slice HO.out
      rw [List.take_length] at e1
      subst e1
      rw [List.take_length] at e0
      clear HO
      have c1 : wr.cell? ⟨w.heap.size, 1, none⟩ = some (.bool b1) := (blk_cell X0.out 1).trans rfl
      have c2 : wr.cell? ⟨w.heap.size, 2, none⟩ = some (.bool b2) := (blk_cell X0.out 2).trans rfl
      have c3 : wr.cell? ⟨w.heap.size, 3, none⟩ = some (.int .i64 n) := (blk_cell X0.out 3).trans rfl
      have d0 : wr.cell? ⟨w.heap.size + 1, 0, none⟩ = some (.slice none 0 0) := (blk_cell X1.out 0).trans rfl
      have d1 : wr.cell? ⟨w.heap.size + 1, 1, none⟩ = some (.bool false) := (blk_cell X1.out 1).trans rfl
      have d2 : wr.cell? ⟨w.heap.size + 1, 2, none⟩ = some (.bool false) := (blk_cell X1.out 2).trans rfl
      have d3 : wr.cell? ⟨w.heap.size + 1, 3, none⟩ = some (.int .i64 0) := (blk_cell X1.out 3).trans rfl
      have f0 := blk_frozen X0.out 0
      have f1 := blk_frozen X1.out 0
      have f2 := blk_frozen X1.out 1
      have f3 := blk_frozen X1.out 2
      have f4 := blk_frozen X1.out 3
      go_wp2
      refine bodyPost_ret (results_cell_row rfl _ _ (w.heap.size + 1) 28 #[.slice B1 l.length dd, .bool b1, .bool b2, .int .i64 n] (0, 0) _ rfl ?_ Tryz.underlying28 rfl (by kernel_rfl)) rfl ?_
      · exact blk_set (blk_set (blk_set (blk_set (blk_far X1.out (by simp) _) 0 _) 1 _) 2 _) 3 _
      · have hs := Kd.S_types (Kd.S_types e0.out X0.out (by decide)) X1.out (by decide)
        exact ⟨_, rfl, Kd.S_mono (Kd.S_far (p := ⟨w.heap.size + 1, 3, none⟩) (Kd.S_far (p := ⟨w.heap.size + 1, 2, none⟩) (Kd.S_far (p := ⟨w.heap.size + 1, 1, none⟩) (Kd.S_far (p := ⟨w.heap.size + 1, 0, none⟩) (Kd.S_far (p := ⟨w.heap.size, 0, none⟩) hs (fun _ h => h.1.2) _) (fun _ h => h.2) _) (fun _ h => h.2) _) (fun _ h => h.2) _) (fun _ h => h.2) _) (fun _ _ => trivial),
          below_set (below_set (below_set (below_set (below_set BW.out (Nat.le_refl _)) (Nat.le_succ _)) (Nat.le_succ _)) (Nat.le_succ _)) (Nat.le_succ _)⟩
set_option maxRecDepth 100000 in
set_option maxHeartbeats 2000000 in
theorem on5_calls (A : Option Addr) (c : Nat) (l : List S53) (b1 b2 : Bool) (n : Int) (w : World) (hA : Kd.C k53 w A l.length l) (hl : l.length < 1000000) (hp : ∀ x ∈ l, x.f0.length < 1000000) :
    Calls Tryz.prog 41 #[.agg #[.slice A l.length c, .bool b1, .bool b2, .int .i64 n]] w fun e w' => ∃ v : Value, e = .returned (.agg #[v, .bool b1, .bool false, .int .i64 n]) ∧ Kd.S k53 53 w' w.heap.size (fun _ => True) v l ∧ Below w.heap.size w w' := by
  have HA := Aside0.mk hA
  have HP := Aside0.mk hp
  clear hA hp
  go_enter Tryz.func41, Tryz.ntmps41
  go_wp2_with fail
  have hb : Below w.heap.size w ((w.alloc (.cells #[.slice A l.length c, .bool b1, .bool b2, .int .i64 n] 28)).alloc (.cells #[.slice none 0 0, .bool false, .bool false, .int .i64 0] 28)) := ((Below.refl _ w).alloc (Nat.le_refl _) _).alloc (by simp) _
  have x1 := box2 w (.cells #[.slice A l.length c, .bool b1, .bool b2, .int .i64 n] 28) (.cells #[.slice none 0 0, .bool false, .bool false, .int .i64 0] 28)
  have hs : ((w.alloc (.cells #[.slice A l.length c, .bool b1, .bool b2, .int .i64 n] 28)).alloc (.cells #[.slice none 0 0, .bool false, .bool false, .int .i64 0] 28)).heap.size = w.heap.size + 2 := by simp
  generalize (w.alloc (.cells #[.slice A l.length c, .bool b1, .bool b2, .int .i64 n] 28)).alloc (.cells #[.slice none 0 0, .bool false, .bool false, .int .i64 0] 28) = W0 at hb x1 hs ⊢
  refine (own5_calls A c l b1 b2 n W0 (Kd.C_below HA.out hb) hl HP.out).mono ?_
  rintro e w1 ⟨v, rfl, hS, h1⟩
  have X1 := Aside0.mk (blk_below x1 h1)
  have HS := Aside0.mk (Kd.S_mono (Kd.S_bound hS) (fun k hk => hk.2.1))
  have BW := Aside0.mk (below_step hb h1)
  have hs1 := Nat.le_trans (Nat.le_of_eq hs.symm) h1.size
  clear hb x1 h1
  obtain ⟨B1, d1, e1⟩ := Kd.S_slice hS
  subst e1
  clear hS
  have c0 : w1.cell? ⟨w.heap.size + 1, 0, none⟩ = some (.slice none 0 0) := (blk_cell X1.out 0).trans rfl
  have c1 : w1.cell? ⟨w.heap.size + 1, 1, none⟩ = some (.bool false) := (blk_cell X1.out 1).trans rfl
  have c2 : w1.cell? ⟨w.heap.size + 1, 2, none⟩ = some (.bool false) := (blk_cell X1.out 2).trans rfl
  have c3 : w1.cell? ⟨w.heap.size + 1, 3, none⟩ = some (.int .i64 0) := (blk_cell X1.out 3).trans rfl
  have f1 := blk_frozen X1.out 0
  have f2 := blk_frozen X1.out 1
  have f3 := blk_frozen X1.out 2
  have f4 := blk_frozen X1.out 3
  have hz : w.heap.size + 1 < w1.heap.size := by omega
  go_wp2_with fail
  refine bodyPost_ret (results_cell_row rfl _ _ (w.heap.size + 1) 28 #[.slice B1 l.length d1, .bool b1, .bool false, .int .i64 n] (0, 0) _ rfl ?_ Tryz.underlying28 rfl (by kernel_rfl)) rfl ?_
  · exact blk_alloc (blk_set (blk_set (blk_set (blk_set X1.out 0 _) 1 _) 2 _) 3 _) _
  · have hne : ∀ k, W0.heap.size ≤ k → k ≠ w.heap.size + 1 := fun k hk => by omega
    exact ⟨_, rfl, Kd.S_lower (Kd.S_mono (Kd.S_alloc (Kd.S_far (p := ⟨w.heap.size + 1, 3, none⟩) (Kd.S_far (p := ⟨w.heap.size + 1, 2, none⟩) (Kd.S_far (p := ⟨w.heap.size + 1, 1, none⟩) (Kd.S_far (p := ⟨w.heap.size + 1, 0, none⟩) HS.out hne _) hne _) hne _) hne _) _) (fun _ _ => trivial)) (by omega),
      below_alloc (below_set (below_set (below_set (below_set BW.out (Nat.le_succ _)) (Nat.le_succ _)) (Nat.le_succ _)) (Nat.le_succ _)) _⟩
end Go.Proofs.YtnfappdaoeiilaaGreat.PD
