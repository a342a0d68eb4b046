/- Written for this claim by hand: the iterator of scan.pages hands over all pages that have a place, in order, for whatever body keeps what lies below. -/
import Derived.Test.YtnfappdaoeiilaaGreatPDx0
import Derived.RangeFuncNested
import Derived.RangeFuncBound
import Derived.RangeFuncCalls
import Derived.RangeFuncLeaves
import Derived.RangeFuncBox
import Derived.Shelf.Abstract
import Derived.OwnWalkIn
import Derived.TacticsInMore
import Derived.LoopNIn
import Derived.LoopIn
namespace Go.Proofs.YtnfappdaoeiilaaGreat.PD
open Go.RowKit Go.Proofs.YtnfappdaoeiilaaGreatW.PrintWords Go.Proofs.YtnfappdaoeiilaaGreatW.PrintLast Go.Proofs.YtnfappdaoeiilaaGreatW.PrintMore
set_option linter.unusedVariables false
set_option linter.unusedSimpArgs false

/-! ### what is handed over -/
/-- The place of a block's page. -/
def plc (b p : Nat) : Int := if b < 32 ∧ p < 16 then ((b * 16 + p : Nat) : Int) else -1
/-- The first k pages of block b, with their places. -/
def bpk (b : Nat) (x : S53) (k : Nat) : List (Int × S65) := (List.range k).flatMap fun p => if b < 32 ∧ p < 16 then [(((b * 16 + p : Nat) : Int), x.f0.getD p z65)] else []
/-- All pages of the first k blocks. -/
def upk (l : List S53) (k : Nat) : List (Int × S65) := (List.range k).flatMap fun b => bpk b (l.getD b z53) (l.getD b z53).f0.length
def allPages (l : List S53) : List (Int × S65) := upk l l.length
theorem bpk_succ (b : Nat) (x : S53) (k : Nat) : bpk b x (k + 1) = bpk b x k ++ (if b < 32 ∧ k < 16 then [(((b * 16 + k : Nat) : Int), x.f0.getD k z65)] else []) := by
  simp [bpk, List.range_succ, List.flatMap_append]
theorem upk_succ (l : List S53) (k : Nat) : upk l (k + 1) = upk l k ++ bpk k (l.getD k z53) (l.getD k z53).f0.length := by
  simp [upk, List.range_succ, List.flatMap_append]
theorem flatMap_range_prefix {α : Type} (f : Nat → List α) {a b : Nat} (h : a ≤ b) : (List.range a).flatMap f <+: (List.range b).flatMap f := by
  obtain ⟨d, rfl⟩ := Nat.le.dest h
  induction d with
  | zero => exact List.prefix_rfl
  | succ d ih => rw [← Nat.add_assoc, List.range_succ, List.flatMap_append]; exact (ih (by omega)).trans (List.prefix_append _ _)
theorem bpk_prefix (b : Nat) (x : S53) {a c : Nat} (h : a ≤ c) : bpk b x a <+: bpk b x c := flatMap_range_prefix _ h
theorem upk_prefix (l : List S53) {a c : Nat} (h : a ≤ c) : upk l a <+: upk l c := flatMap_range_prefix _ h
theorem at_prefix (l : List S53) {b k : Nat} (hb : b < l.length) (hk : k ≤ (l.getD b z53).f0.length) : upk l b ++ bpk b (l.getD b z53) k <+: allPages l := by
  have h1 : upk l b ++ bpk b (l.getD b z53) k <+: upk l (b + 1) := by
    rw [upk_succ]; exact (List.prefix_append_right_inj _).2 (bpk_prefix _ _ hk)
  exact h1.trans (upk_prefix l hb)

def encPg (x : Int × S65) : Array Value := #[.int .i64 x.1, .agg #[.bool x.2.f0, .string x.2.f1, .string x.2.f2]]

theorem place_calls (b p : Nat) (w : World) (hb : b ≤ 9223372036854775807) (hp : p ≤ 9223372036854775807) :
    Calls Tryz.prog 83 #[.int .i64 b, .int .i64 p] w fun e w' => e = .returned (.int .i64 (plc b p)) ∧ w = w' := by
  unfold plc
  by_cases h1 : b < 32
  · by_cases h2 : p < 16
    · have e1 : decide ((b : Int) < 0) = false := by simp
      have e2 : decide ((32 : Int) ≤ (b : Int)) = false := by simp; omega
      have e3 : decide ((p : Int) < 0) = false := by simp
      have e4 : decide ((16 : Int) ≤ (p : Int)) = false := by simp; omega
      rw [if_pos ⟨h1, h2⟩]
      go_enter Tryz.func83, Tryz.ntmps83
      go_wp2
      all_goals (go_ret; exact ⟨by first | rfl | (simp; done) | (simp_all; done), rfl⟩)
    · have e1 : decide ((b : Int) < 0) = false := by simp
      have e2 : decide ((32 : Int) ≤ (b : Int)) = false := by simp; omega
      have e3 : decide ((p : Int) < 0) = false := by simp
      have e4 : decide ((16 : Int) ≤ (p : Int)) = true := by simp; omega
      rw [if_neg (fun h => h2 h.2)]
      go_enter Tryz.func83, Tryz.ntmps83
      go_wp2
      all_goals (go_ret; exact ⟨by first | rfl | (simp; done) | (simp_all; done), rfl⟩)
  · have e1 : decide ((b : Int) < 0) = false := by simp
    have e2 : decide ((32 : Int) ≤ (b : Int)) = true := by simp; omega
    rw [if_neg (fun h => h1 h.1)]
    go_enter Tryz.func83, Tryz.ntmps83
    go_wp2
    all_goals (go_ret; exact ⟨by first | rfl | (simp; done) | (simp_all; done), rfl⟩)

set_option maxRecDepth 100000 in
set_option maxHeartbeats 2000000 in
/-- 'for b, x := range c.Blocks { for p, page := range x.Pages { if at := Place(b, p); at >= 0 && !yield(at, page) { return } } }' -/
theorem pages1_in (F : Fence) (n : Nat) (h8 : F.fn 82) (hpl : F.fn 83) (hw : F = Fence.wide) (hro : F.round = none) (hn : 1 ≤ n) (l Bs n₀ : Nat) (A : Option Addr) (c : Nat) (zs : List S53) (J Jx : List (Int × S65) → World → Prop)
    (W : World) (hJ : AbidesFrom W.heap.size J)
    (hY : ∀ pre x W1, J pre W1 → pre ++ [x] <+: allPages zs → YieldAt F (n - 1) Tryz.prog l (encPg x) W1 fun e W' =>
      (e = .returned (.bool true) ∧ J (pre ++ [x]) W' ∧ Below n₀ W1 W') ∨ (e = .returned (.bool false) ∧ Jx (pre ++ [x]) W'))
    (hn₀ : n₀ ≤ W.heap.size) (hBs : W.cell? ⟨Bs, 0, none⟩ = some (.slice A zs.length c)) (w0 : World) (hC : Kd.C k53 w0 A zs.length zs) (hw0 : Below w0.heap.size w0 W) (hle : w0.heap.size ≤ n₀) (h0 : J [] W) :
    CallsIn F n Tryz.prog 82 #[.func (.yield l) #[] #[], .pointer (some ⟨Bs, 0, none⟩)] W fun e W' => (∃ v, e = .returned v) ∧
      ((∃ ys, ys = allPages zs ∧ J ys W') ∨ (∃ pre, pre <+: allPages zs ∧ Jx pre W')) := by
  have hbig : zs.length ≤ 9223372036854775807 := hC.2.1
  subst hw
  have HC := Aside0.mk hC
  have HW := Aside0.mk hw0
  have HY := Aside0.mk hY
  have HJ := Aside0.mk hJ
  clear hC hw0 hY hJ
  refine callsIn_of_wp Tryz.func82 rfl h8 ?_ hro
  simp only [Tryz.ntmps82, List.size_toArray, List.length_cons, List.length_nil, Nat.reduceAdd, Nat.reduceSub, Array.replicate_succ, Array.replicate_zero, List.push_toArray, List.append_toArray, List.nil_append, List.cons_append]
  gi_wp2
  gi_loopw [11] (fun i wr => ∃ k : Nat, k ≤ zs.length ∧ i = .int .i64 k ∧ Aside0 (J (upk zs k) wr) ∧ Aside0 (Below n₀ W wr))
    (fun i _ => zs.length - (intOf i).toNat)
  case atStart => exact ⟨0, Nat.zero_le _, rfl, ⟨h0⟩, ⟨Below.refl _ _⟩⟩
  case round =>
    obtain ⟨k, hk, rfl, hJs, hnx⟩ := hrel
    by_cases hlt : k < zs.length
    · have hltz : (k : Int) < (zs.length : Int) := by omega
      obtain ⟨ad, A0, c0, e, l0, l1, l2, l3, l4, l5⟩ := at_T53 HC.out (k : Int) (by omega) (by omega)
      obtain rfl := e
      rw [Int.toNat_natCast] at l0 l1 l2 l3
      have hbw : Below w0.heap.size w0 wr := HW.out.trans (hnx.out.mono hle)
      replace l0 := (hbw.cell (World.block_lt_of_cell? w0 _ l0)).trans l0
      replace l1 := (hbw.cell (World.block_lt_of_cell? w0 _ l1)).trans l1
      replace l2 := (hbw.cell (World.block_lt_of_cell? w0 _ l2)).trans l2
      replace l3 := (hbw.cell (World.block_lt_of_cell? w0 _ l3)).trans l3
      have L5 := Aside0.mk l5
      clear l4 l5 hbw
      have hy : Aside0 (zs.getD k z53 = rd_T53 zs k) := ⟨rfl⟩
      generalize rd_T53 zs k = y at l0 l1 l2 l3 L5 hy
      obtain ⟨y0, y1, y2, y3⟩ := y
      dsimp only at l0 l1 l2 l3 L5
      have hyl : y0.length ≤ 9223372036854775807 := L5.out.2.1
      obtain ⟨wo, rfl⟩ : ∃ wo : World, wo = wr := ⟨_, rfl⟩
      gi_wp2
      gi_loopw [19] (fun i wq => ∃ p : Nat, p ≤ y0.length ∧ i = .int .i64 p ∧ Aside0 (J (upk zs k ++ bpk k ⟨y0, y1, y2, y3⟩ p) wq) ∧ Aside0 (Below n₀ W wq))
        (fun i _ => y0.length - (intOf i).toNat)
      case atStart =>
        refine ⟨0, Nat.zero_le _, rfl, ⟨?_⟩, ⟨hnx.out.alloc (Nat.le_trans hn₀ hnx.out.size) _⟩⟩
        have : bpk k ⟨y0, y1, y2, y3⟩ 0 = [] := rfl
        rw [this, List.append_nil]
        exact HJ.out _ _ _ none hJs.out (World.grownBy_alloc _ _ _) (fun r e => by cases e)
      case round =>
        obtain ⟨p, hp, rfl, hJ2, hn2⟩ := hrel
        clear hnx hJs
        by_cases hpl2 : p < y0.length
        · have hptz : (p : Int) < (y0.length : Int) := by omega
          obtain ⟨ad2, e2, m0, m1, m2⟩ := at_T65 L5.out (p : Int) (by omega) (by omega)
          obtain rfl := e2
          rw [Int.toNat_natCast] at m0 m1 m2
          have hbq : Below w0.heap.size w0 wr := HW.out.trans (hn2.out.mono hle)
          replace m0 := (hbq.cell (World.block_lt_of_cell? w0 _ m0)).trans m0
          replace m1 := (hbq.cell (World.block_lt_of_cell? w0 _ m1)).trans m1
          replace m2 := (hbq.cell (World.block_lt_of_cell? w0 _ m2)).trans m2
          clear hbq
          have hg : Aside0 (y0.getD p z65 = rd_T65 y0 p) := ⟨rfl⟩
          generalize rd_T65 y0 p = g at m0 m1 m2 hg
          obtain ⟨g0, g1, g2⟩ := g
          dsimp only at m0 m1 m2
          have hJ3 : Aside0 (J (upk zs k ++ bpk k ⟨y0, y1, y2, y3⟩ p) (wr.alloc (.cells #[.bool g0, .string g1, .string g2] 65))) := ⟨HJ.out _ _ _ none hJ2.out (World.grownBy_alloc _ _ _) (fun r e => by cases e)⟩
          have hn3 : Aside0 (Below n₀ W (wr.alloc (.cells #[.bool g0, .string g1, .string g2] 65))) := ⟨hn2.out.alloc (Nat.le_trans hn₀ hn2.out.size) _⟩
          by_cases hkp : k < 32 ∧ p < 16
          · have hpc : plc k p = ((k * 16 + p : Nat) : Int) := if_pos hkp
            have hpcall := place_calls k p
            rw [hpc] at hpcall
            have HPC := Aside0.mk hpcall
            have hbp : Aside0 (bpk k ⟨y0, y1, y2, y3⟩ (p + 1) = bpk k ⟨y0, y1, y2, y3⟩ p ++ [(((k * 16 + p : Nat) : Int), ⟨g0, g1, g2⟩)]) := ⟨by rw [bpk_succ, if_pos hkp]; show _ ++ [(_, y0.getD p z65)] = _; rw [hg.out]⟩
            have hpre : Aside0 (upk zs k ++ bpk k ⟨y0, y1, y2, y3⟩ (p + 1) <+: allPages zs) := ⟨by have h1 := at_prefix zs hlt (k := p + 1) (by rw [hy.out]; exact hpl2); rw [hy.out] at h1; exact h1⟩
            obtain ⟨fn, tmps, assign, body, hyy, hRR⟩ := HY.out _ (((k * 16 + p : Nat) : Int), ⟨g0, g1, g2⟩) _ hJ3.out (by rw [List.append_assoc, ← hbp.out]; exact hpre.out)
            clear hpc hpcall
            have hge : decide ((0 : Int) ≤ ((k * 16 + p : Nat) : Int)) = true := decide_eq_true (by omega)
            dsimp only [encPg] at hyy
            generalize hq : ((k * 16 + p : Nat) : Int) = q at HPC hbp hyy hRR hge
            clear hq hkp
            gi_wp2
            refine (callsIn_wide.2 (HPC.out _ (by omega) (by omega))).mono ?_
            rintro e w' ⟨rfl, rfl⟩
            gi_wp2
            refine hRR.mono ?_
            rintro e W3 (⟨rfl, hJ4, hk3⟩ | ⟨rfl, hJx3⟩)
            · gi_wp2
              go_roundw
              case rel => exact ⟨p + 1, by omega, by simp, ⟨by rw [hbp.out, ← List.append_assoc]; exact hJ4⟩, ⟨hn3.out.trans hk3⟩⟩
              case measure => simp [intOf]; omega
            · gi_wp2
              refine bodyPost_ret (results_none rfl _ _ _) rfl ?_
              exact ⟨⟨_, rfl⟩, .inr ⟨_, by rw [List.append_assoc, ← hbp.out]; exact hpre.out, hJx3⟩⟩
          · have hpc : plc k p = -1 := if_neg hkp
            have hpcall := place_calls k p
            rw [hpc] at hpcall
            have HPC := Aside0.mk hpcall
            have hbp : Aside0 (bpk k ⟨y0, y1, y2, y3⟩ (p + 1) = bpk k ⟨y0, y1, y2, y3⟩ p) := ⟨by rw [bpk_succ, if_neg hkp, List.append_nil]⟩
            clear hpc hpcall hkp
            have hge : decide ((0 : Int) ≤ (-1 : Int)) = false := rfl
            gi_wp2
            refine (callsIn_wide.2 (HPC.out _ (by omega) (by omega))).mono ?_
            rintro e w' ⟨rfl, rfl⟩
            gi_wp2
            refine ⟨fun _ h => (by cases h), ?_⟩
            gi_wp2
            go_roundw
            case rel => exact ⟨p + 1, by omega, by simp, ⟨by rw [hbp.out]; exact hJ3.out⟩, hn3⟩
            case measure => simp [intOf]; omega
        · obtain rfl : p = y0.length := by omega
          gi_wp2
          go_roundw
          case rel =>
            refine ⟨k + 1, by omega, by simp, ⟨?_⟩, hn2⟩
            have := hJ2.out
            rw [upk_succ, hy.out]
            exact this
          case measure => simp [intOf]; omega
    · obtain rfl : k = zs.length := by omega
      gi_wp2
      go_end0
      exact ⟨⟨_, rfl⟩, .inl ⟨_, rfl, hJs.out⟩⟩
set_option maxHeartbeats 1000000 in
theorem pages_calls (A : Option Addr) (n c : Nat) (b1 b2 : Bool) (o : Int) (w : World) :
    Calls Tryz.prog 66 #[.agg #[.slice A n c, .bool b1, .bool b2, .int .i64 o]] w fun e w' => e = .returned (.func (.func 82) #[] #[.pointer (some ⟨w.heap.size, 0, none⟩)]) ∧ w.alloc (.cells #[.slice A n c, .bool b1, .bool b2, .int .i64 o] 28) = w' := by
  go_enter Tryz.func66, Tryz.ntmps66
  go_wp2
  go_ret
  exact ⟨rfl, rfl⟩

theorem next_of {α β : Type} (f : α → β) {zl pre : List α} {x : β} (h1 : pre <+: zl) (h2 : pre.map f ++ [x] <+: zl.map f) : ∃ y, f y = x ∧ pre ++ [y] <+: zl := by
  obtain ⟨r, rfl⟩ := h1
  obtain ⟨q, hq⟩ := h2
  rw [List.map_append, List.append_assoc] at hq
  have hq := List.append_cancel_left hq
  cases r with
  | nil => simp at hq
  | cons y r =>
    simp only [List.map_cons, List.cons_append, List.nil_append, List.cons.injEq] at hq
    exact ⟨y, hq.1.symm, ⟨r, by simp⟩⟩

/-- .. as the law of a range over a function wants it; what is handed over is told by an α of one's own. -/
theorem pages_stops {α : Type} (dec : α → Int × S65) (zl : List α) (Bs n₀ : Nat) (A : Option Addr) (c : Nat) (zs : List S53) (has : zl.map dec = allPages zs) (n : Nat) (hn : 1 ≤ n) (w w0 : World) (hn₀ : n₀ ≤ w.heap.size) (hBs : w.cell? ⟨Bs, 0, none⟩ = some (.slice A zs.length c)) (hC : Kd.C k53 w0 A zs.length zs) (hw0 : Below w0.heap.size w0 w) (hle : w0.heap.size ≤ n₀) :
    SeqStopsK Fence.wide n Tryz.prog 82 #[.pointer (some ⟨Bs, 0, none⟩)] (fun x => encPg (dec x)) (Below n₀) (fun ys => ys = zl) (fun pre => pre <+: zl) zl.length w := fun l J Jx W hW hJ hJx hY h0 => by
  have h := pages1_in Fence.wide n trivial trivial rfl rfl hn l Bs n₀ A c zs (fun p W => ∃ q, q.map dec = p ∧ q <+: zl ∧ J q W) (fun p W => ∃ q, q.map dec = p ∧ q <+: zl ∧ Jx q W) W
    (by rintro s W1 W2 row ⟨q, h1, h2, h3⟩ hg hr; exact ⟨q, h1, h2, hJ q W1 W2 row h3 hg hr⟩)
    (by
      rintro pre x W1 ⟨q, h1, h2, h3⟩ hp
      rw [← has, ← h1] at hp
      obtain ⟨y, rfl, hy⟩ := next_of dec h2 hp
      refine (hY q y W1 h3 (by have := hy.length_le; simp at this; omega)).mono ?_
      rintro e W' (⟨he, hj, hb⟩ | ⟨he, hj⟩)
      · exact .inl ⟨he, ⟨q ++ [y], by rw [← h1]; simp, hy, hj⟩, hb⟩
      · exact .inr ⟨he, ⟨q ++ [y], by rw [← h1]; simp, hy, hj⟩⟩)
    (Nat.le_trans hn₀ hW.size) ((hW.cell (World.block_lt_of_cell? w _ hBs)).trans hBs) w0 hC (hw0.trans (hW.mono hw0.size)) hle ⟨[], rfl, List.nil_prefix, h0⟩
  refine h.mono ?_
  rintro e W' ⟨he, ⟨ys, hys, q, h1, h2, h3⟩ | ⟨pre, hp, q, h1, h2, h3⟩⟩
  · refine ⟨he, .inl ⟨q, ?_, h3⟩⟩
    exact h2.eq_of_length (by have := congrArg List.length (h1.trans (hys.trans has.symm)); simpa using this)
  · exact ⟨he, .inr ⟨q, h2, h3⟩⟩
end Go.Proofs.YtnfappdaoeiilaaGreat.PD
