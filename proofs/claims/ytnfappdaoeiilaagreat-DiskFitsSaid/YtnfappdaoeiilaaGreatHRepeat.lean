/- Written for this claim by hand: slices.Repeat of one number, from 1 to 64 times. -/
import Derived.Test.YtnfappdaoeiilaaGreatPDx0
import Derived.Test.YtnfappdaoeiilaaGreatPDm
import Derived.Deep.RegionLaw
import Derived.Laws.CopyOwn
import Derived.Lib.Hide
namespace Go.Proofs.YtnfappdaoeiilaaGreat.PD
open Go.RowKit Go.Proofs.YtnfappdaoeiilaaGreatW.PrintWords Go.Proofs.YtnfappdaoeiilaaGreatW.PrintLast Go.Proofs.YtnfappdaoeiilaaGreatW.PrintMore
set_option linter.unusedVariables false
set_option linter.unusedSimpArgs false
def slices_Repeat_int_int.f (l : List Int) (n : Int) : Option (List Int) := if l.length = 1 ∧ 1 ≤ n ∧ n ≤ 64 then some (List.replicate n.toNat (rd l 0)) else none
theorem mul_one_fin : ∀ m : Fin 65, bits_Mul.f 1 (m.val : Int) = some (0, (m.val : Int)) := by decide +kernel
theorem mul_one (m : Nat) (h : m ≤ 64) : bits_Mul.f 1 (m : Int) = some (0, (m : Int)) := mul_one_fin ⟨m, by omega⟩
/-- n times v, and noughts behind them. -/
def reps (v : Int) (m n : Nat) : List Value := List.replicate n (.int .i64 v) ++ List.replicate (m - n) (.int .i64 0)
theorem reps_length (v : Int) {m n : Nat} (h : n ≤ m) : (reps v m n).length = m := by simp [reps]; omega
theorem reps_splice (v : Int) {m n : Nat} (h : n ≤ m) : splice (reps v m n) n (List.replicate (Nat.min n (m - n)) (.int .i64 v)) = reps v m (n + Nat.min n (m - n)) := by
  have h1 : Nat.min n (m - n) = min n (m - n) := rfl
  rw [h1]
  simp only [splice, reps, List.take_left' List.length_replicate, List.length_replicate]
  rw [List.drop_append, List.drop_eq_nil_of_le (by simp), List.nil_append, List.length_replicate, List.drop_replicate, ← List.append_assoc, List.replicate_append_replicate]
  congr 2; omega
theorem reps_get (v : Int) {m n j : Nat} (h : j < n) : (reps v m n)[j]? = some (.int .i64 v) := by
  rw [reps, List.getElem?_append_left (by simpa using h)]; simp [h]
theorem madeReps (m : Nat) : madeCells #[.int .i64 0] m = (List.replicate m (Value.int .i64 0)).toArray := by
  apply Array.ext
  · simp [madeCells]
  · intro i h1 h2
    simp only [madeCells, List.size_toArray, List.length_cons, List.length_nil, Nat.zero_add, Array.getElem_map, List.getElem_toArray, List.getElem_replicate, Nat.mod_one]
    rfl
theorem rep_step {ops : Array Oper} {o : Oper} {a : Act} {K : Act → World → Prop} {Q : Exit → Act → World → Prop} {E : Prop} {w wr : World} {g n m : Nat} {v : Int} (hgd : o.guard = none)
    (ho : o.op = .call { callee := .builtin .copy, args := #[.tmp 41, .tmp 44], argTypes := #[25, 25] })
    (hd : a.eval (.tmp 41) = .slice (some ⟨g, n, none⟩) (m - n) (m - n)) (hs : a.eval (.tmp 44) = .slice (some ⟨g, 0, none⟩) n m)
    (hn1 : 1 ≤ n) (hmn : ¬ m = n) (hn2 : n ≤ m) (hg : wr.heap[g]? = some (.cells (reps v m n).toArray 3 (0, 0))) (hb : Below w.heap.size w wr) (hge : w.heap.size ≤ g)
    (h : ∀ w' (d : Nat), 1 ≤ d → d ≤ m - n → Aside0 (w'.heap[g]? = some (.cells (reps v m (n + d)).toArray 3 (0, 0))) → Aside0 (Below w.heap.size w w') → K (a.put o.dst (.int .i64 (d : Int))) w') :
    if Region.wanted o (yielded ops a.tmps) = true then Oper.wp Tryz.prog o a wr.drew K Q else E := by
  have hmin : Nat.min n (m - n) ≤ n := Nat.min_le_left _ _
  have hmin2 : Nat.min n (m - n) ≤ m - n := Nat.min_le_right _ _
  have hl : (List.replicate (Nat.min n (m - n)) (Value.int .i64 v)).length = Nat.min n (m - n) := List.length_replicate
  refine step_copy_splice hgd (.tmp 41) (.tmp 44) 25 25 ho 3 Tryz.underlying25 (by kernel_rfl) (some ⟨g, n, none⟩) (some ⟨g, 0, none⟩) (m - n) (m - n) n m hd hs g n (reps v m n) 3 (blk_drew hg)
    (List.replicate (Nat.min n (m - n)) (.int .i64 v)) hl ?_ ?_ ?_ w.heap.size w (below_drew hb) hge ?_
  · intro _
    refine ⟨rfl, _, rfl, fun j u hj => ?_⟩
    obtain ⟨hj1, hj2⟩ := List.getElem?_eq_some_iff.1 hj
    rw [hl] at hj1
    rw [List.getElem_replicate] at hj2
    subst hj2
    rw [add_plain]
    refine (blk_cell (blk_drew hg) j).trans ?_
    have := reps_get v (m := m) (n := n) (j := j) (by omega)
    simpa using this
  · rw [hl, reps_length v hn2]; omega
  · intro u hu
    rw [List.eq_of_mem_replicate hu]; rfl
  · intro w5 h5 h6
    rw [hl]
    have hmin3 : 1 ≤ Nat.min n (m - n) := Nat.le_min.2 ⟨hn1, by omega⟩
    refine h w5 _ hmin3 hmin2 ⟨?_⟩ ⟨h6⟩
    rw [← reps_splice v hn2]
    exact h5.out
set_option maxRecDepth 100000 in
set_option maxHeartbeats 4000000 in
theorem slices_Repeat_int_int.calls (A0 : Option Addr) (c0 : Nat) (l0 : List Int) (a1 : Int) (r : List Int) (w : World) (hr0 : Kd.C (Kd.int .i64) w A0 l0.length l0) (hc0 : l0.length ≤ c0) (h : slices_Repeat_int_int.f l0 a1 = some r) :
    Calls Tryz.prog 72 #[.slice A0 l0.length c0, .int .i64 a1] w fun e w' => ∃ v0_ : Value, e = .returned (v0_) ∧ Kd.R (Kd.int .i64) 3 w' w.heap.size (fun _ => True) v0_ r ∧ Below w.heap.size w w' := by
  unfold slices_Repeat_int_int.f at h
  split at h
  · rename_i hc
    obtain ⟨h1, h2, h3⟩ := hc
    obtain ⟨ad, e, hcell⟩ := Kd.at_int hr0 0 (by omega) (by omega)
    obtain rfl := e
    obtain ⟨m, rfl⟩ := Int.eq_ofNat_of_zero_le (show 0 ≤ a1 by omega)
    simp only [Option.some.injEq] at h
    have Hr := Aside0.mk h
    clear h
    generalize rd l0 0 = v at hcell Hr
    rw [h1] at hc0 ⊢
    have HX := Aside0.mk hcell
    have HM := Aside0.mk (mul_one m (by omega))
    clear hr0 h1 hcell
    have hm1 : 1 ≤ m := by omega
    have hm2 : m ≤ 64 := by omega
    clear h2 h3
    have e1 : decide ((m : Int) < 0) = false := by simp
    have e2 : decide ((0 : Int) < 0) = false := rfl
    have e3 : decide ((9223372036854775807 : Int) < (m : Int)) = false := by simp; omega
    have hmk := print_make 25 3 .i64 8 Tryz.underlying25 info3 (by decide) m (by omega)
    go_enter Tryz.func72, Tryz.ntmps72
    go_wp2_with (first | (go_at_call 88; refine (bits_Mul.calls _ _ _ _ _ HM.out).mono ?_; rintro e w1 ⟨rfl, hd⟩; have HD := Aside0.mk hd; clear hd) | ((with_reducible refine wpList_copy_splice rfl (.tmp 31) (.tmp 32) 25 25 rfl 3 Tryz.underlying25 (by kernel_rfl) (some ⟨w1.heap.size, 0, none⟩) (some ad) m m 1 c0 rfl rfl w1.heap.size 0 (List.replicate m (.int .i64 0)) 3 ?hg [.int .i64 v] ?c1 ?c2 ?c3 ?c4 w.heap.size w ?hb ?hge ?_); (case hg => rw [← madeReps]; exact heap_alloc_new w1 _); (case c1 => exact (Nat.min_eq_left hm1).symm); (case hb => exact HD.out.below.alloc HD.out.below.size _); (case hge => exact HD.out.below.size); (case c2 => intro _; exact ⟨rfl, ad, rfl, fun j u hj => by cases j with | zero => (cases hj; exact ((HD.out.below.alloc HD.out.below.size _).cell (World.block_lt_of_cell? w _ HX.out)).trans HX.out) | succ j => simp at hj⟩); (case c3 => simp; omega); (case c4 => intro u hu; simp at hu; rw [hu]; rfl); intro w4 hg4 hb4; have HB4 := Aside0.mk hb4; clear hb4))
    have hg5 : Aside0 (w4.heap[w1.heap.size]? = some (.cells (reps v m 1).toArray 3 (0, 0))) := ⟨by
      have h6 : splice (List.replicate m (Value.int .i64 0)) 0 [.int .i64 v] = reps v m 1 := by
        simp [splice, reps, List.drop_replicate]
      rw [← h6]; exact hg4.out⟩
    have HGE := Aside0.mk HD.out.below.size
    clear hg4 HD hmk HX
    go_loopw [8] (fun s wr => ∃ n : Nat, 1 ≤ n ∧ n ≤ m ∧ s = .int .i64 n ∧ Aside0 (wr.heap[w1.heap.size]? = some (.cells (reps v m n).toArray 3 (0, 0))) ∧ Aside0 (Below w.heap.size w wr)) (fun s _ => m - (intOf s).toNat)
    case atStart => exact ⟨1, Nat.le_refl _, hm1, rfl, hg5, HB4⟩
    case round =>
      obtain ⟨n, hn1, hn2, rfl, HG, HB⟩ := hrel
      clear hg5 HB4
      by_cases hlt : n < m
      · have hltz : (n : Int) < (m : Int) := by omega
        have hmn : ¬ m = n := by omega
        go_wp2
        go_region_law (refine rep_step (n := n) (m := m) (g := w1.heap.size) (v := v) (w := w) rfl rfl ?hd ?hs hn1 hmn hn2 HG.out HB.out HGE.out ?_; (case hd => first | (go_simp; done) | (go_simp; rfl)); (case hs => first | (go_simp; done) | (go_simp; rfl)); intro w5 d hd1 hd2 hg5 hb5)
        simp only [Act.put, List.setIfInBounds_toArray, List.set_cons_zero, List.set_cons_succ, List.getElem_toArray, List.getElem_cons_succ, List.getElem_cons_zero]
        have hsum : IntKind.i64.wrap ((n : Int) + (d : Int)) = ((n + d : Nat) : Int) := by
          rw [IntWalk.i64_in _ (by omega)]; omega
        rw [hsum]
        go_roundw
        case rel => ((repeat apply Exists.intro); exact ⟨⟨n + d, by omega, by omega, rfl, hg5, hb5⟩, rfl⟩)
        case measure => simp [intOf]; omega
      · obtain rfl : n = m := by omega
        go_wp2
        go_ret
        refine ⟨_, rfl, ?_, HB.out⟩
        have hr : r = List.replicate n v := by rw [← Hr.out]; simp
        rw [hr]
        have h0 : reps v n n = List.replicate n (.int .i64 v) := by simp [reps]
        refine Kd.R_of_own (enc := Value.int .i64) (h1 := fun _ => rfl) ⟨?_, .inr ⟨w1.heap.size, n, (reps v n n).toArray, ?_, HGE.out, HG.out, by simp, ?_, ?_, ?_⟩⟩ (fun _ _ => trivial)
        · simp [encs]
        · simp
        · simp only [maxLen]; omega
        · simp [h0]
        · simp [h0, encs]
  · simp at h
end Go.Proofs.YtnfappdaoeiilaaGreat.PD
