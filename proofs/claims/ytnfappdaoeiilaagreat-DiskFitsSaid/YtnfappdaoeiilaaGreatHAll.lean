/- Written for this claim by hand: what a chip's pages tell, where none is written: nothing. -/
import Derived.Test.YtnfappdaoeiilaaGreatHPages
import Derived.Test.YtnfappdaoeiilaaGreatHSort0
namespace Go.Proofs.YtnfappdaoeiilaaGreat.PD
open Go.RowKit Go.Proofs.YtnfappdaoeiilaaGreatW.PrintWords Go.Proofs.YtnfappdaoeiilaaGreatW.PrintLast Go.Proofs.YtnfappdaoeiilaaGreatW.PrintMore
attribute [local go_sem] Oper.semAt_some
set_option linter.unusedVariables false
set_option linter.unusedSimpArgs false
/-- No page of the chip is written. -/
def blank (l : List S53) : Bool := l.all fun b => b.f0.all fun p => !p.f0
def scan_All.f (l0_0 : List S53) (a0_1 : Bool) (a0_2 : Bool) (a0_3 : Int) : Option (List S94) := if blank l0_0 = true then some [] else none
set_option maxHeartbeats 2000000 in
theorem look0_calls (d t : ByteArray) (w : World) :
    Calls Tryz.prog 67 #[.agg #[.bool false, .string d, .string t]] w fun e w' => e = .returned (.tuple #[.int .i64 0, .agg #[.int .i64 0, .int .i64 0, .slice none 0 0, .slice none 0 0]]) ∧ Below w.heap.size w w' := by
  go_enter Tryz.func67, Tryz.ntmps67
  go_wp2
  have hb : Below w.heap.size w ((w.alloc (Obj.cells #[Value.bool false, Value.string d, Value.string t] 65)).alloc (Obj.cells #[Value.int IntKind.i64 0, Value.int IntKind.i64 0, Value.slice none 0 0, Value.slice none 0 0] 82)) := ((Below.refl _ _).alloc (Nat.le_refl _) _).alloc (by simp) _
  refine bodyPost_ret (results_tc rfl _ _ (w.heap.size + 1) 82 #[.int .i64 0, .int .i64 0, .slice none 0 0, .slice none 0 0] (0, 0) _ rfl (by have := heap_alloc_new (w.alloc (Obj.cells #[Value.bool false, Value.string d, Value.string t] 65)) (Obj.cells #[Value.int IntKind.i64 0, Value.int IntKind.i64 0, Value.slice none 0 0, Value.slice none 0 0] 82); simpa using this) Tryz.underlying82 rfl (by kernel_rfl)) rfl ?_
  exact ⟨rfl, hb⟩

theorem blank_mem (zs : List S53) (hbl : blank zs = true) (x : Int × S65) (hx : x ∈ allPages zs) : x.2.f0 = false := by
  simp only [allPages, upk, bpk, List.mem_flatMap, List.mem_range] at hx
  obtain ⟨b, hb, p, hp, hx⟩ := hx
  split at hx
  · simp only [List.mem_singleton] at hx
    subst hx
    simp only [blank, List.all_eq_true, Bool.not_eq_true'] at hbl
    refine hbl (zs.getD b z53) ?_ _ ?_
    · rw [List.getD_eq_getElem?_getD, List.getElem?_eq_getElem hb]; simp
    · show (zs.getD b z53).f0.getD p z65 ∈ _
      rw [List.getD_eq_getElem?_getD (l := (zs.getD b z53).f0), List.getElem?_eq_getElem hp]; simp
  · simp at hx

/-- A block of cells as a whole: own blocks that are no cells may turn. -/
theorem ownCells {β : Type} (B b : Nat) (o : β → Obj) (ho : ∀ s, (o s).isCells = true) : OwnFrom B (fun s W => W.heap[b]? = some (o s)) := fun s W W' row hs hg hr => by
  refine (hg.block b (Array.getElem?_eq_some_iff.1 hs).1 (fun e => ?_)).trans hs
  obtain ⟨_, o', h1, h2⟩ := hr b e.symm
  rw [hs] at h1
  cases h1
  rw [ho s] at h2
  cases h2

abbrev Unw := { x : Int × S65 // x.2.f0 = false }

set_option maxRecDepth 100000 in
set_option maxHeartbeats 2000000 in
theorem scan_All.calls (A0_0 : Option Addr) (c0_0 : Nat) (l0_0 : List (S53)) (a0_1 : Bool) (a0_2 : Bool) (a0_3 : Int) (r : List (S94)) (w : World) (hr0_0 : Kd.C k53 w A0_0 l0_0.length l0_0) (hc0_0 : l0_0.length ≤ c0_0) (h : scan_All.f l0_0 a0_1 a0_2 a0_3 = some r) :
    Calls Tryz.prog 51 #[.agg #[.slice A0_0 l0_0.length c0_0, .bool a0_1, .bool a0_2, .int .i64 a0_3]] w fun e w' => ∃ v0_ : Value, e = .returned (v0_) ∧ Kd.S k94 94 w' w.heap.size (fun _ => True) v0_ r ∧ Below w.heap.size w w' := by
  obtain ⟨hbl, rfl⟩ : blank l0_0 = true ∧ [] = r := by
    unfold scan_All.f at h
    split at h
    · exact ⟨by assumption, by simpa using h⟩
    · simp at h
  clear h
  have HC := Aside0.mk hr0_0
  obtain ⟨zl, hzl⟩ : ∃ zl : List Unw, zl.map Subtype.val = allPages l0_0 := ⟨(allPages l0_0).attachWith _ (fun x hx => blank_mem l0_0 hbl x hx), List.attachWith_map_subtype_val _⟩
  have HZ := Aside0.mk hzl
  clear hr0_0 hc0_0 hbl hzl
  refine (callsIn_wide (n := 5)).1 ?_
  refine callsIn_of_wp_marks Tryz.func51 rfl trivial ?_ rfl
  simp only [Tryz.ntmps51, List.size_toArray, List.length_cons, List.length_nil, Nat.reduceAdd, Nat.reduceSub, Array.replicate_succ, Array.replicate_zero, List.push_toArray, List.append_toArray, List.nil_append, List.cons_append]
  gi_wp2
  refine ⟨trivial, ?_⟩
  refine (callsIn_wide.2 (pages_calls _ _ _ _ _ _ _)).mono ?_
  rintro e w' ⟨rfl, rfl⟩
  gi_wp2
  have bO := (Boxed.new (w.alloc (.cells #[.slice A0_0 l0_0.length c0_0, .bool a0_1, .bool a0_2, .int .i64 a0_3] 28)) 91 (.slice none 0 0)).alloc (.cells #[.slice A0_0 l0_0.length c0_0, .bool a0_1, .bool a0_2, .int .i64 a0_3] 28)
  simp only [World.size_alloc] at bO
  have bC : (((w.alloc (.cells #[.slice A0_0 l0_0.length c0_0, .bool a0_1, .bool a0_2, .int .i64 a0_3] 28)).alloc (.cells #[.slice none 0 0] 91)).alloc (.cells #[.slice A0_0 l0_0.length c0_0, .bool a0_1, .bool a0_2, .int .i64 a0_3] 28)).heap[w.heap.size + 1 + 1]? = some (.cells #[.slice A0_0 l0_0.length c0_0, .bool a0_1, .bool a0_2, .int .i64 a0_3] 28 (0, 0)) := by
    have := heap_alloc_new ((w.alloc (.cells #[.slice A0_0 l0_0.length c0_0, .bool a0_1, .bool a0_2, .int .i64 a0_3] 28)).alloc (.cells #[.slice none 0 0] 91)) (.cells #[.slice A0_0 l0_0.length c0_0, .bool a0_1, .bool a0_2, .int .i64 a0_3] 28)
    rwa [World.size_alloc, World.size_alloc] at this
  have hB0 : Below w.heap.size w (((w.alloc (.cells #[.slice A0_0 l0_0.length c0_0, .bool a0_1, .bool a0_2, .int .i64 a0_3] 28)).alloc (.cells #[.slice none 0 0] 91)).alloc (.cells #[.slice A0_0 l0_0.length c0_0, .bool a0_1, .bool a0_2, .int .i64 a0_3] 28)) := (((Below.refl _ w).alloc (Nat.le_refl _) _).alloc (by simp) _).alloc (by simp; omega) _
  have hsz : (((w.alloc (.cells #[.slice A0_0 l0_0.length c0_0, .bool a0_1, .bool a0_2, .int .i64 a0_3] 28)).alloc (.cells #[.slice none 0 0] 91)).alloc (.cells #[.slice A0_0 l0_0.length c0_0, .bool a0_1, .bool a0_2, .int .i64 a0_3] 28)).heap.size = w.heap.size + 3 := by simp
  obtain ⟨W0, hW0⟩ : ∃ W0, ((w.alloc (.cells #[.slice A0_0 l0_0.length c0_0, .bool a0_1, .bool a0_2, .int .i64 a0_3] 28)).alloc (.cells #[.slice none 0 0] 91)).alloc (.cells #[.slice A0_0 l0_0.length c0_0, .bool a0_1, .bool a0_2, .int .i64 a0_3] 28) = W0 := ⟨_, rfl⟩
  rw [hW0] at bO bC hB0 hsz ⊢
  clear hW0
  have cC : W0.cell? ⟨w.heap.size + 1 + 1, 0, none⟩ = some (.slice A0_0 l0_0.length c0_0) := (blk_cell bC 0).trans rfl
  refine wpIn_rangeFunc_ownH rfl (by omega) (gf := 82) (lb := #[.pointer (some ⟨w.heap.size + 1 + 1, 0, none⟩)]) rfl trivial (enters_of Tryz.func82 (by kernel_rfl) rfl)
    (pages_stops Subtype.val zl (w.heap.size + 1 + 1) w.heap.size A0_0 c0_0 l0_0 HZ.out (5 - 1) (by omega) W0 w (by omega) cC HC.out hB0 (Nat.le_refl _)) belowK_t (belowK_b (by omega)) (Below.refl _ _) (fun _ => rfl)
    (fun pre W => Boxed W (w.heap.size + 1) 91 (.slice none 0 0) ∧ Below w.heap.size w W)
    (fun _ _ _ => False)
    (OwnFrom.and (Own.from (boxed_own _ _ _) _) (ownFrom_below (Nat.le_refl _) (by omega)))
    (fun _ _ _ _ _ hs _ _ => hs)
    ⟨bO, hB0⟩
    (fun x a' W => ∃ Bx, w.heap.size + 1 < Bx ∧ W.heap[Bx]? = some (.cells #[.bool x.1.2.f0, .string x.1.2.f1, .string x.1.2.f2] 65 (0, 0)) ∧ a' = { tmps := #[.agg #[.slice A0_0 l0_0.length c0_0, .bool a0_1, .bool a0_2, .int .i64 a0_3], .pointer (some ⟨w.heap.size, 0, none⟩), .pointer (some ⟨w.heap.size + 1, 0, none⟩), .int .i64 x.1.1, .pointer (some ⟨Bx, 0, none⟩), undef, undef, .agg #[.slice A0_0 l0_0.length c0_0, .bool a0_1, .bool a0_2, .int .i64 a0_3], .func (.func 82) #[] #[.pointer (some ⟨w.heap.size + 1 + 1, 0, none⟩)], .int .i64 x.1.1, .agg #[.bool x.1.2.f0, .string x.1.2.f1, .string x.1.2.f2], undef, undef, undef, undef, undef, undef, undef, undef, undef, undef, undef, undef, undef, undef, undef, undef], defers := [] })
    (fun x a' _ X Y row hs hg hr => by obtain ⟨Bx, h1, h2, h3⟩ := hs; exact ⟨Bx, h1, ownCells (β := Unit) W0.heap.size Bx (fun _ => .cells #[.bool x.1.2.f0, .string x.1.2.f1, .string x.1.2.f2] 65 (0, 0)) (fun _ => rfl) () X Y row h2 hg hr, h3⟩)
    ?assign ?body ?done ?stop
  case assign =>
    rintro l pre x W K ⟨bO1, hB1⟩ hK
    dsimp only [encPg]
    gi_wp2
    exact hK _ _ ((KeepsOthers.alloc _ _).from _) ((Below.refl _ W).alloc hB1.size _) ⟨bO1.alloc _, hB1.alloc hB1.size _⟩ ⟨W.heap.size, bO1.lt, heap_alloc_new W _, rfl⟩
  case body =>
    rintro l pre x a' W hl hr ⟨bO1, hB1⟩ ⟨Bx, hBx, bX, rfl⟩ hlt
    obtain ⟨⟨x0, g0, g1, g2⟩, hx⟩ := x
    dsimp only at hx bX
    subst hx
    have cX0 : W.cell? ⟨Bx, 0, none⟩ = some (.bool false) := (blk_cell bX 0).trans rfl
    have cX1 : W.cell? ⟨Bx, 1, none⟩ = some (.string g1) := (blk_cell bX 1).trans rfl
    have cX2 : W.cell? ⟨Bx, 2, none⟩ = some (.string g2) := (blk_cell bX 2).trans rfl
    gi_wp2
    refine ⟨trivial, ?_⟩
    refine (CallsIn.inRound l (callsIn_wide.2 (look0_calls g1 g2 W))).mono ?_
    rintro e w' ⟨rfl, hb⟩
    have hbW : Below w.heap.size W w' := hb.mono hB1.size
    have bO2 := bO1.kept (grown_of_below hb none) (by simp)
    have hK1 : KeepsFrom W0.heap.size W w' := KeepsFrom.of_grownBy (grown_of_below hb none) (fun j e => by cases e)
    gi_wp2
    exact ⟨hK1.trans ((KeepsOthers.alloc _ _).from _), hbW.alloc (Nat.le_trans hB1.size hb.size) _, bO2.alloc _, (hB1.trans hbW).alloc (Nat.le_trans hB1.size hb.size) _⟩
  case done =>
    rintro D ys W hD rfl ⟨bO1, hB1⟩ hK
    have cO := bO1.cell
    gi_wp2
    refine ⟨trivial, ?_⟩
    refine (callsIn_wide.2 (sort0_calls _ _)).mono ?_
    rintro e w' ⟨⟨v, rfl⟩, hb⟩
    have bO2 := bO1.kept (grown_of_below hb none) (by simp)
    have cO2 := bO2.cell
    have fO2 := bO2.frozen
    have hK2 : w'.heap[D]? = some (.deferred (some [])) := (hb.block D (Array.getElem?_eq_some_iff.1 hK).1).trans hK
    gi_wp2
    have hK3 := (KeepsOthers.setCell w' ⟨w.heap.size + 1, 0, none⟩ (.slice none 0 0)).same D _ hK2 rfl
    refine ⟨by simp, .inl ⟨_, _, rfl, run_takeDeferred hK3, ?_⟩⟩
    have bO3 : Boxed ((w'.setCell ⟨w.heap.size + 1, 0, none⟩ (.slice none 0 0)).putObj D (.deferred none)) (w.heap.size + 1) 91 (.slice none 0 0) := (bO2.set _).kept (grownBy_putObj' _ D (.deferred none)) (fun e => by injection e with e; omega)
    have hB2 : Below w.heap.size w (w'.setCell ⟨w.heap.size + 1, 0, none⟩ (.slice none 0 0)) := (hB1.trans (hb.mono hB1.size)).setCell (p := ⟨w.heap.size + 1, 0, none⟩) (by simp) _
    have hB3 : Below w.heap.size w ((w'.setCell ⟨w.heap.size + 1, 0, none⟩ (.slice none 0 0)).putObj D (.deferred none)) := hB2.trans (belowK_b (w := w) (Nat.le_refl _) _ D _ _ (by omega) hK3 rfl rfl)
    generalize (w'.setCell ⟨w.heap.size + 1, 0, none⟩ (.slice none 0 0)).putObj D (.deferred none) = w5 at bO3 hB3 ⊢
    have cO5 := bO3.cell
    refine ⟨.slice none 0 0, ?_, _, rfl, Kd.S_nil _ _ _ _ _, hB3⟩
    have hu := Tryz.underlying91
    simp [results, Tryz.results51, go_sem, cO5]
  case stop =>
    rintro D c pre W _ _ h _
    exact h.elim
end Go.Proofs.YtnfappdaoeiilaaGreat.PD
