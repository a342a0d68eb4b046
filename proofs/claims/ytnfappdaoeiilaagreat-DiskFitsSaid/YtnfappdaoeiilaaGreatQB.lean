/- Written for this claim: what formatting a device comes to, in plain Lean. -/
import Derived.Test.YtnfappdaoeiilaaGreatQA
namespace Go.Proofs.YtnfappdaoeiilaaGreat.Q
open Go.RowKit Go.Proofs.YtnfappdaoeiilaaGreat.PD Go.Proofs.YtnfappdaoeiilaaGreatW.PrintWords Go.Proofs.YtnfappdaoeiilaaGreatW.PrintLast Go.Proofs.YtnfappdaoeiilaaGreatW.PrintMore
set_option linter.unusedVariables false
set_option linter.unusedSimpArgs false
def freshB (P : Nat) (m : Bool) : S53 := ⟨List.replicate P z65, 0, 0, m⟩
theorem rd_set {α : Type} (l : List α) (i : Nat) (x : α) (h : i < l.length) : l.set i x = l.take i ++ x :: l.drop (i + 1) := by
  exact List.set_eq_take_append_cons_drop.trans (if_pos h)
theorem step_fill (P B i : Nat) (h : i < B) : (List.replicate i (freshB P false) ++ List.replicate (B - i) z53).set i (freshB P false) = List.replicate (i + 1) (freshB P false) ++ List.replicate (B - (i + 1)) z53 := by
  obtain ⟨d, rfl⟩ : ∃ d, B = i + 1 + d := ⟨B - (i + 1), by omega⟩
  rw [List.set_append_right _ _ (by simp), List.length_replicate, Nat.sub_self, show i + 1 + d - i = d + 1 by omega, show i + 1 + d - (i + 1) = d by omega, List.replicate_succ, List.set_cons_zero, List.replicate_succ', List.append_assoc]
  rfl
theorem rd_fill (P B i : Nat) (h : i < B) : rd_T53 (List.replicate i (freshB P false) ++ List.replicate (B - i) z53) (i : Int) = z53 := by
  unfold rd_T53
  rw [Int.toNat_natCast, List.getD_eq_getElem?_getD, List.getElem?_append_right (by simp), List.length_replicate, Nat.sub_self, List.getElem?_replicate]
  rw [if_pos (by omega)]; rfl
theorem rd_map (P : Nat) (ms : List Bool) (i : Nat) (h : i < ms.length) : rd_T53 (ms.map (freshB P)) (i : Int) = freshB P (ms.getD i false) := by
  unfold rd_T53
  rw [Int.toNat_natCast, List.getD_eq_getElem?_getD, List.getElem?_map, List.getD_eq_getElem?_getD, List.getElem?_eq_getElem h]; rfl
theorem set_map (P : Nat) (ms : List Bool) (i : Nat) (h : i < ms.length) : (ms.map (freshB P)).set i (freshB P true) = (ms.set i true).map (freshB P) := by
  rw [List.map_set]

/-- Blocks that are marked. -/
def marks (ms : List Bool) (bad : List Int) : List Bool := bad.foldl (fun m x => m.set x.toNat true) ms
theorem marks_length (bad : List Int) : ∀ ms, (marks ms bad).length = ms.length := by
  induction bad with
  | nil => intro ms; rfl
  | cons x xs ih => intro ms; show (marks (ms.set x.toNat true) xs).length = _; rw [ih, List.length_set]
theorem marks_cons (ms : List Bool) (x : Int) (xs : List Int) : marks ms (x :: xs) = marks (ms.set x.toNat true) xs := rfl
def outB (bad : List Int) (B : Int) : Bool := bad.any fun x => decide (x < 0) || decide (x ≥ B)
theorem rd_at (bad : List Int) (j : Nat) (h : j < bad.length) : rd bad (j : Int) = bad[j] := by
  unfold rd; rw [Int.toNat_natCast, List.getD_eq_getElem?_getD, List.getElem?_eq_getElem h]; rfl

/-! ### nand.New -/
theorem new_l1 (P : Nat) (bad : List Int) (hlen : bad.length < 100) : ∀ (d j : Nat) (ms : List Bool), d = bad.length - j → j ≤ bad.length → (∀ x ∈ bad, 0 ≤ x ∧ x < (ms.length : Int)) →
    Evt (fun k => nand_New.l1 k bad (bad.length : Int) (j : Int) (ms.map (freshB P)) false false 0) ((marks ms (bad.drop j)).map (freshB P), false, false, 0, 0) := by
  intro d
  induction d with
  | zero =>
    intro j ms hd hj hb
    rw [List.drop_eq_nil_of_le (by omega)]
    refine Evt.succ (g := fun _ => some (ms.map (freshB P), false, false, 0, 0)) (Evt.const _) fun k => ?_
    rw [nand_New.l1, if_neg (by omega)]
  | succ d ih =>
    intro j ms hd hj hb
    have hjl : j < bad.length := by omega
    obtain ⟨h0, h1⟩ := hb _ (List.getElem_mem hjl)
    rw [List.drop_eq_getElem_cons hjl, marks_cons]
    rw [← rd_at bad j hjl] at h0 h1 ⊢
    obtain ⟨x, hxe⟩ := Int.eq_ofNat_of_zero_le h0
    have hxl : x < ms.length := by omega
    have he := ih (j + 1) (ms.set x true) (by omega) (by omega) (by rw [List.length_set]; exact hb)
    rw [hxe, Int.toNat_natCast]
    refine he.succ fun k => ?_
    rw [nand_New.l1, if_pos (by omega), if_pos (by omega), if_pos (by omega), if_pos h0, if_pos (by rw [List.length_map]; exact h1), hxe, rd_map P ms x hxl, Int.toNat_natCast, w64 (by omega) (by omega)]
    show nand_New.l1 k bad _ _ ((ms.map (freshB P)).set x (freshB P true)) _ _ _ = _
    rw [set_map P ms x hxl]; rfl
theorem new_l0 (B P : Nat) (hB : B ≤ 32) (hP : P ≤ 16) (bad : List Int) (hlen : bad.length < 100) (hb : ∀ x ∈ bad, 0 ≤ x ∧ x < (B : Int)) : ∀ (d i : Nat), d = B - i → i ≤ B →
    Evt (fun k => nand_New.l0 k (P : Int) bad (B : Int) (i : Int) (List.replicate i (freshB P false) ++ List.replicate (B - i) z53) false false 0) ((marks (List.replicate B false) bad).map (freshB P), false, false, 0, 0) := by
  intro d
  induction d with
  | zero =>
    intro i hd hi
    obtain rfl : i = B := by omega
    have he := new_l1 P bad hlen bad.length 0 (List.replicate i false) rfl (by omega) (by rw [List.length_replicate]; exact hb)
    refine he.succ fun k => ?_
    rw [nand_New.l0, if_neg (by omega), Nat.sub_self, List.map_replicate]
    simp only [List.replicate_zero, List.append_nil]; rfl
  | succ d ih =>
    intro i hd hi
    have he := ih (i + 1) (by omega) (by omega)
    refine he.succ fun k => ?_
    rw [nand_New.l0, if_pos (by omega), if_pos (by omega), if_pos (by simp; omega), if_pos (by omega), if_pos (by simp; omega), rd_fill P B i (by omega), Int.toNat_natCast, Int.toNat_natCast, w64 (by omega) (by omega)]
    show nand_New.l0 k _ _ _ _ ((List.replicate i (freshB P false) ++ List.replicate (B - i) z53).set i (freshB P false)) _ _ _ = _
    rw [step_fill P B i (by omega)]; rfl
theorem in_of (bad : List Int) (B : Int) (hc : outB bad B = false) : ∀ x ∈ bad, 0 ≤ x ∧ x < B := by
  intro x hx
  have := List.any_eq_false.mp hc x hx
  simp at this; omega
theorem new_ev (B P : Nat) (hB : 1 ≤ B ∧ B ≤ 32) (hP : 1 ≤ P ∧ P ≤ 16) (bad : List Int) (hlen : bad.length < 100) :
    (outB bad B = true → Evt (fun k => nand_New.f k B P bad) (([] : List S53), false, false, 0, 1)) ∧ (outB bad B = false → Evt (fun k => nand_New.f k B P bad) ((marks (List.replicate B false) bad).map (freshB P), false, false, 0, 0)) := by
  unfold nand_New.f
  simp only [if_neg (show ¬ ((B : Int) < 1) by omega), if_neg (show ¬ ((B : Int) > 32) by omega), if_neg (show ¬ ((P : Int) < 1) by omega), if_neg (show ¬ ((P : Int) > 16) by omega), slices_ContainsFunc_int_int.f, Option.bind_some]
  refine ⟨fun hc => ?_, fun hc => ?_⟩
  · unfold outB at hc
    rw [hc]
    exact Evt.succ (g := fun _ => some (([] : List S53), false, false, 0, 1)) (Evt.const _) (fun k => by rw [nand_New.j0, if_pos rfl])
  · have hb := in_of bad B hc
    unfold outB at hc
    rw [hc]
    have he := new_l0 B P hB.2 hP.2 bad hlen hb B 0 rfl (by omega)
    refine he.succ fun k => ?_
    rw [nand_New.j0, if_neg (by simp), if_pos (by omega), if_pos (by simp; omega)]
    simp only [Option.bind_some, Int.toNat_natCast, List.length_replicate, List.replicate_zero, List.nil_append, Nat.sub_zero]
    rfl

/-! ### bads -/
theorem bads_l0 (P : Nat) (ms : List Bool) (hlen : ms.length ≤ 32) : ∀ (d j c : Nat), d = ms.length - j → j ≤ ms.length → c ≤ j →
    Evt (fun k => disk_bads.l0 k (c : Int) (ms.map (freshB P)) ((ms.map (freshB P)).length : Int) (j : Int)) ((c + (ms.drop j).count true : Nat) : Int) := by
  intro d
  induction d with
  | zero =>
    intro j c hd hj hc
    have : ms.drop j = [] := List.drop_eq_nil_of_le (by omega)
    rw [this]
    refine Evt.succ (g := fun _ => some ((c + List.count true [] : Nat) : Int)) (Evt.const _) fun k => ?_
    rw [disk_bads.l0, if_neg (by rw [List.length_map]; omega)]; simp
  | succ d ih =>
    intro j c hd hj hc
    have hj' : j < ms.length := by omega
    rw [List.drop_eq_getElem_cons hj']
    cases hm : ms[j] with
    | true =>
      have := ih (j + 1) (c + 1) (by omega) (by omega) (by omega)
      rw [show c + List.count true (true :: ms.drop (j + 1)) = c + 1 + (ms.drop (j + 1)).count true by simp; omega]
      refine this.succ fun k => ?_
      rw [disk_bads.l0, if_pos (by rw [List.length_map]; omega), if_pos (by omega), if_pos (by rw [List.length_map]; omega), rd_map P ms j hj', List.getD_eq_getElem?_getD, List.getElem?_eq_getElem hj', hm]
      rw [if_pos (show (freshB P ((some true).getD false)).f3 = true from rfl), w64 (by omega) (by omega), w64 (by omega) (by omega)]; rfl
    | false =>
      have := ih (j + 1) c (by omega) (by omega) (by omega)
      rw [show c + List.count true (false :: ms.drop (j + 1)) = c + (ms.drop (j + 1)).count true by simp]
      refine this.succ fun k => ?_
      rw [disk_bads.l0, if_pos (by rw [List.length_map]; omega), if_pos (by omega), if_pos (by rw [List.length_map]; omega), rd_map P ms j hj', List.getD_eq_getElem?_getD, List.getElem?_eq_getElem hj', hm]
      rw [if_neg (show ¬ (freshB P ((some false).getD false)).f3 = true from fun h => by cases h), w64 (by omega) (by omega)]; rfl
theorem bads_ev (P : Nat) (ms : List Bool) (hlen : ms.length ≤ 32) (b1 b2 : Bool) (n : Int) : Evt (fun k => disk_bads.f k (ms.map (freshB P)) b1 b2 n) ((ms.count true : Nat) : Int) := by
  have := bads_l0 P ms hlen ms.length 0 0 rfl (by omega) (by omega)
  simp only [List.drop_zero, Nat.zero_add] at this
  exact this

/-! ### Mount of a chip with no written page -/
theorem blank_map (P : Nat) (ms : List Bool) : PD.blank (ms.map (freshB P)) = true := by
  unfold PD.blank
  rw [List.all_eq_true]
  intro b hb
  obtain ⟨m, _, rfl⟩ := List.mem_map.mp hb
  rw [List.all_eq_true]
  intro p hp
  have hp' : p ∈ List.replicate P z65 := hp
  rw [List.eq_of_mem_replicate hp']; rfl
theorem replay_ev (P : Nat) (ms : List Bool) (S : Nat) (hS : 1 ≤ S ∧ S ≤ 64) (b1 b2 : Bool) (n : Int) : replay_Replay.f (ms.map (freshB P)) b1 b2 n (S : Int) = some (List.replicate S (-1), List.replicate S (-1), 0) := by
  have hmx : mx (S : Int) 0 = S := by unfold mx; rw [if_neg (by omega)]
  have hmn : mn (S : Int) 64 = S := by unfold mn; rw [if_neg (by omega)]
  have hR : slices_Repeat_int_int.f [(-1)] (S : Int) = some (List.replicate S (-1)) := by
    unfold slices_Repeat_int_int.f; rw [if_pos ⟨rfl, by omega, by omega⟩]; rfl
  unfold replay_Replay.f scan_All.f replay_New.f
  rw [if_pos (blank_map P ms)]
  simp only [hmx, hmn, hR, Option.bind_some]; rfl
theorem idx_map (P : Nat) (p : S53 → Bool) (hp : ∀ m, p (freshB P m) = false) : ∀ (ms : List Bool) (i : Nat), idxP p (ms.map (freshB P)) i = -1
  | [], _ => rfl
  | m :: ms, i => by
    rw [List.map_cons, idxP, if_neg (by rw [hp m]; simp)]; exact idx_map P p hp ms (i + 1)
theorem mount_ev (B P S R : Nat) (ms : List Bool) (hl : ms.length = B) (hf : fitsB B P S R = true) (b1 b2 : Bool) (n : Int) :
    Evt (fun k => disk_Mount.f k B P S R (ms.map (freshB P)) b1 b2 n) ((B : Int), (P : Int), (S : Int), (R : Int), ms.map (freshB P), b1, false, n, List.replicate S (-1), List.replicate S (-1), 0, -1, 0) := by
  have hS : 1 ≤ S ∧ S ≤ 64 := by unfold fitsB at hf; rw [decide_eq_true_iff] at hf; omega
  have odd : oddB.f (ms.map (freshB P)) B P S R = some false := by
    unfold oddB.f
    congr 1
    rw [List.any_eq_false]
    intro x hx
    obtain ⟨m, _, rfl⟩ := List.mem_map.mp hx
    simp [freshB]
  have op : openB.f (ms.map (freshB P)) B P S R = some (-1) := by
    unfold openB.f
    rw [idx_map P _ (fun m => by simp [freshB])]
  unfold disk_Mount.f
  refine Evt.bind (hf ▸ fits_ev B P S R) ?_
  simp only [if_true]
  refine Evt.pos (by rw [List.length_map, hl]) ?_
  simp only [odd, Option.bind_some]
  refine Evt.succ (g := fun _ => some _) (Evt.const _) fun k => ?_
  rw [disk_Mount.j0, if_neg (by simp), replay_ev P ms S hS, op]
  rfl

/-! ### Format -/
abbrev badly : Int × Int × Int × Int × (List S53) × Bool × Bool × Int × List Int × List Int × Int × Int × Int := (0, 0, 0, 0, ([] : List S53), false, false, 0, ([] : List Int), ([] : List Int), 0, 0, 1)
/-- May a device be formatted so? -/
def okF (B P S R : Nat) (bad : List Int) : Bool := fitsB B P S R && (!outB bad B && decide ((marks (List.replicate B false) bad).count true ≤ R))
abbrev goodly (B P S R : Nat) (bad : List Int) : Int × Int × Int × Int × (List S53) × Bool × Bool × Int × List Int × List Int × Int × Int × Int := ((B : Int), (P : Int), (S : Int), (R : Int), (marks (List.replicate B false) bad).map (freshB P), false, false, 0, List.replicate S (-1), List.replicate S (-1), 0, -1, 0)
theorem format_ev (B P S R : Nat) (bad : List Int) (hlen : bad.length < 100) :
    Evt (fun k => disk_Format.f k B P S R bad) (if okF B P S R bad = true then goodly B P S R bad else badly) := by
  unfold disk_Format.f okF
  cases hf : fitsB B P S R with
  | false =>
    rw [if_neg (by simp)]
    refine Evt.bind (hf ▸ fits_ev B P S R) ?_
    exact Evt.eq fun k => if_neg (by simp)
  | true =>
    have hr : (1 ≤ B ∧ B ≤ 32) ∧ (1 ≤ P ∧ P ≤ 16) := by unfold fitsB at hf; rw [decide_eq_true_iff] at hf; omega
    have hn := new_ev B P hr.1 hr.2 bad hlen
    have hml : (marks (List.replicate B false) bad).length = B := by rw [marks_length, List.length_replicate]
    refine Evt.bind (hf ▸ fits_ev B P S R) ?_
    simp only [if_true]
    cases ho : outB bad B with
    | true =>
      rw [if_neg (by simp)]
      refine Evt.bind (hn.1 ho) ?_
      exact Evt.eq fun k => if_neg (by decide)
    | false =>
      refine Evt.bind (hn.2 ho) ?_
      simp only [if_true]
      by_cases hc : (marks (List.replicate B false) bad).count true ≤ R
      · rw [if_pos (by simp [hc])]
        refine Evt.bind (bads_ev P _ (by omega) _ _ _) ?_
        refine Evt.neg (by omega) ?_
        exact Evt.bind (mount_ev B P S R _ hml hf _ _ _) (Evt.const _)
      · rw [if_neg (by simp [hc])]
        refine Evt.bind (bads_ev P _ (by omega) _ _ _) ?_
        exact Evt.pos (by omega) (Evt.const _)
end Go.Proofs.YtnfappdaoeiilaaGreat.Q
