/- Written for this claim by hand: a device is formatted as the document says. -/
import Derived.Test.YtnfappdaoeiilaaGreatHRefFmt
import Derived.Test.YtnfappdaoeiilaaGreatHAwake
import Derived.Test.YtnfappdaoeiilaaGreatHSame
namespace Go.Proofs.YtnfappdaoeiilaaGreat.PD
open Go.RowKit Go.Proofs.YtnfappdaoeiilaaGreatW.PrintWords Go.Proofs.YtnfappdaoeiilaaGreatW.PrintLast Go.Proofs.YtnfappdaoeiilaaGreatW.PrintMore
set_option linter.unusedVariables false
set_option linter.unusedSimpArgs false

/-- A device, and its error, that are returned: its parts read so. -/
def DevOut (w0 : World) (r : Int × Int × Int × Int × (List S53) × Bool × Bool × Int × List Int × List Int × Int × Int × Int) (e : Ending) (w' : World) : Prop :=
  ∃ V d M cm Y cy, e = .returned (.tuple #[.agg #[.int .i64 r.1, .int .i64 r.2.1, .int .i64 r.2.2.1, .int .i64 r.2.2.2.1, .slice V r.2.2.2.2.1.length d, .bool r.2.2.2.2.2.1, .bool r.2.2.2.2.2.2.1, .int .i64 r.2.2.2.2.2.2.2.1, .slice M r.2.2.2.2.2.2.2.2.1.length cm, .slice Y r.2.2.2.2.2.2.2.2.2.1.length cy, .int .i64 r.2.2.2.2.2.2.2.2.2.2.1, .int .i64 r.2.2.2.2.2.2.2.2.2.2.2.1], .int .i64 r.2.2.2.2.2.2.2.2.2.2.2.2]) ∧
    Kd.C k53 w' V r.2.2.2.2.1.length r.2.2.2.2.1 ∧ Kd.C (Kd.int .i64) w' M r.2.2.2.2.2.2.2.2.1.length r.2.2.2.2.2.2.2.2.1 ∧ Kd.C (Kd.int .i64) w' Y r.2.2.2.2.2.2.2.2.2.1.length r.2.2.2.2.2.2.2.2.2.1 ∧ Below w0.heap.size w0 w'
/-- What becomes of a format. -/
def fmtR (B P S R : Nat) (bad : List Int) : Int × Int × Int × Int × (List S53) × Bool × Bool × Int × List Int × List Int × Int × Int × Int := if Q.okF B P S R bad = true then Q.goodly B P S R bad else Q.badly
theorem dformat_calls (B P S R : Nat) (A : Option Addr) (c : Nat) (bad : List Int) (hl : bad.length < 100) (hc : bad.length ≤ c) (w : World) (hA : Kd.C (Kd.int .i64) w A bad.length bad) :
    Calls Tryz.prog 7 #[.agg #[.int .i64 B, .int .i64 P, .int .i64 S, .int .i64 R], .slice A bad.length c] w (DevOut w (fmtR B P S R bad)) := by
  obtain ⟨n, hn⟩ := Q.format_ev B P S R bad hl
  have h := hn n (Nat.le_refl _)
  change disk_Format.f n B P S R bad = some (fmtR B P S R bad) at h
  generalize fmtR B P S R bad = r at h
  refine (disk_Format.calls n B P S R A c bad r.1 r.2.1 r.2.2.1 r.2.2.2.1 r.2.2.2.2.1 r.2.2.2.2.2.1 r.2.2.2.2.2.2.1 r.2.2.2.2.2.2.2.1 r.2.2.2.2.2.2.2.2.1 r.2.2.2.2.2.2.2.2.2.1 r.2.2.2.2.2.2.2.2.2.2.1 r.2.2.2.2.2.2.2.2.2.2.2.1 r.2.2.2.2.2.2.2.2.2.2.2.2 w hA hc h).mono ?_
  rintro e w' ⟨v4, v8, v9, rfl, hV, hM, hY, hB⟩
  obtain ⟨V, d, e4, _, hF⟩ := hV
  obtain ⟨M, cm, e8⟩ := Kd.R_slice hM
  obtain ⟨Y, cy, e9⟩ := Kd.R_slice hY
  subst e4 e8 e9
  exact ⟨V, d, M, cm, Y, cy, rfl, Kd.F_now hF, (Kd.R_reads' hM).2.2, (Kd.R_reads' hY).2.2, hB⟩
theorem rformat_dev (B P S R : Nat) (hs : B ≤ 1000 ∧ P ≤ 1000 ∧ S ≤ 1000 ∧ R ≤ 1000) (A : Option Addr) (c : Nat) (bad : List Int) (w : World) (hA : Kd.C (Kd.int .i64) w A bad.length bad) :
    Calls Tryz.prog 8 #[.agg #[.int .i64 B, .int .i64 P, .int .i64 S, .int .i64 R], .slice A bad.length c] w (DevOut w (fmtR B P S R bad)) := by
  refine (rformat_calls B P S R hs A c bad w hA).mono ?_
  rintro e w' (⟨ho, rfl, hB⟩ | ⟨ho, V, d, M, cm, Y, cy, rfl, hV, hM, hY, hB⟩)
  · unfold fmtR
    rw [ho]
    exact ⟨none, 0, none, 0, none, 0, rfl, Kd.C_nil _ _, Kd.C_nil _ _, Kd.C_nil _ _, hB⟩
  · unfold fmtR
    rw [ho]
    exact ⟨V, d, M, cm, Y, cy, rfl, (Kd.S_reads' hV).2.2, (Kd.R_reads' hM).2.2, (Kd.R_reads' hY).2.2, hB⟩

theorem awake_ev : Q.Evt (fun k => clinkerlaw14_awake.f k) true := Q.Evt.of_mono (clinkerlaw14_awake.mono) (n := 60) (by kernel_rfl)

def badl (l : List Int) (j : Nat) : List Int := (l.take j).map (· % 33)
theorem badl_snoc (l : List Int) (j : Nat) (h : j < l.length) : badl l (j + 1) = badl l j ++ [rd l j % 33] := by
  unfold badl rd
  rw [List.take_succ_eq_append_getElem h, List.map_append, Int.toNat_natCast, List.getD_eq_getElem?_getD, List.getElem?_eq_getElem h]
  rfl
theorem kc {W W' : World} {a : Addr} {v : Value} (hb : Below W.heap.size W W') (hl : a.block < W.heap.size) (hc : W.cell? a = some v) : W'.cell? a = some v := (hb.cell hl).trans hc
theorem badl_len (l : List Int) (j : Nat) : (badl l j).length ≤ j := by unfold badl; rw [List.length_map, List.length_take]; omega
set_option maxRecDepth 100000 in
set_option maxHeartbeats 4000000 in
theorem diskFits_calls (a0 a1 a2 a3 : Nat) (h0 : a0 ≤ 255) (h1 : a1 ≤ 255) (h2 : a2 ≤ 255) (h3 : a3 ≤ 255) (A : Option Addr) (c : Nat) (l : List Int) (w : World) (hA : Kd.C (Kd.int .u8) w A l.length l) (hl : ∀ x ∈ l, 0 ≤ x ∧ x ≤ 255) :
    Calls Tryz.prog 3 #[.int .u8 a0, .int .u8 a1, .int .u8 a2, .int .u8 a3, .slice A l.length c] w fun e w' => e = .returned (.bool true) ∧ Below w.heap.size w w' := by
  have hbig : l.length ≤ 9223372036854775807 := hA.2.1
  have HA := Aside0.mk hA
  have HL := Aside0.mk hl
  clear hA hl
  go_enter Tryz.func3, Tryz.ntmps3
  go_wp2_with fail
  obtain ⟨B, hB, hB1⟩ : ∃ B : Nat, (a0 : Int) % 34 = B ∧ B ≤ 1000 := ⟨a0 % 34, by omega, by omega⟩
  obtain ⟨P, hP, hP1⟩ : ∃ P : Nat, (a1 : Int) % 18 = P ∧ P ≤ 1000 := ⟨a1 % 18, by omega, by omega⟩
  obtain ⟨S, hS, hS1⟩ : ∃ S : Nat, (a2 : Int) % 67 = S ∧ S ≤ 1000 := ⟨a2 % 67, by omega, by omega⟩
  obtain ⟨R, hR, hR1⟩ : ∃ R : Nat, (a3 : Int) % 16 = R ∧ R ≤ 1000 := ⟨a3 % 16, by omega, by omega⟩
  rw [hB, hP, hS, hR]
  clear hB hP hS hR
  go_loopg [12, 13] l.length (fun g v i wr => ∃ k : Nat, k ≤ l.length ∧ k ≤ 6 ∧ l.length - k ≤ g ∧ i = .int .i64 k ∧ Aside0 (Kd.R (Kd.int .i64) 3 wr w.heap.size (fun _ => True) v (badl l k)) ∧ Aside0 (Below w.heap.size w wr) ∧ Aside0 (wr.heap[w.heap.size]? = some (.cells #[.int .i64 B, .int .i64 P, .int .i64 S, .int .i64 R] 24 (0, 0))))
  case atStart => exact ⟨0, Nat.zero_le _, Nat.zero_le _, by omega, rfl, ⟨Kd.R_nil _ _ _ _ _⟩, ⟨below_alloc (Below.refl _ w) _⟩, ⟨heap_alloc_new w _⟩⟩
  case round =>
    obtain ⟨k, hk, hk6, hg, rfl, HO, BW, X0⟩ := hrel
    have hlen := badl_len l k
    by_cases hlt : k < l.length ∧ k < 6
    · have hltz : (k : Int) < (l.length : Int) := by omega
      have hlt6 : (k : Int) < 6 := by omega
      obtain ⟨ad, e, l0⟩ := Kd.at_int HA.out (k : Int) (by omega) (by omega)
      obtain rfl := e
      rw [Int.toNat_natCast] at l0
      replace l0 := (BW.out.cell (World.block_lt_of_cell? w _ l0)).trans l0
      have HN := Aside0.mk (badl_snoc l k hlt.1)
      have hx := HL.out _ (by rw [Q.rd_at l k hlt.1]; exact List.getElem_mem hlt.1 : rd l k ∈ l)
      generalize rd l k = x at l0 HN hx
      obtain ⟨hx0, hx1⟩ := hx
      go_wp2_with ((with_reducible refine gate_builtin (b := .append) (xs := #[.tmp 41, .tmp 48]) rfl ?_); at_builtin; refine Kd.R_append (Kd.int .i64) (w0 := w) w.heap.size rfl (.tmp 41) (.tmp 48) 25 3 (.int .i64 0) 8 rfl Tryz.underlying25 info3 rfl (by decide) (by omega) _ (badl l k) (x % 33) [.int .i64 (x % 33)] (fun _ => True) (fun _ => False) rfl rfl rfl (fun _ h => h.elim) (fun _ _ => trivial) HO.out BW.out BW.out.size (by omega) ?_; intro v1 w1 hr hb hgr hat; rw [← HN.out] at hr; have x0 := Aside0.mk (blk_grown X0.out hgr (Kd.R_ne HO.out X0.out (by decide))))
      go_roundg (l.length - (k + 1))
      case measure => omega
      case rel => exact ⟨k + 1, by omega, by omega, by omega, by go_num, ⟨hr⟩, ⟨hb⟩, x0⟩
    · have hend : (¬ (k : Int) < (l.length : Int)) ∨ ((k : Int) < (l.length : Int) ∧ ¬ (k : Int) < 6) := by omega
      obtain ⟨V0, c0, e⟩ := Kd.R_slice HO.out
      subst e
      obtain ⟨_, hcap, hC⟩ := Kd.R_reads' HO.out
      have HC := Aside0.mk hC
      have hl6 : (badl l k).length < 100 := by omega
      clear hC HO hlen hlt
      generalize badl l k = bad at HC hl6 hcap ⊢
      have d0 : wr.cell? ⟨w.heap.size, 0, none⟩ = some (.int .i64 B) := (blk_cell X0.out 0).trans rfl
      have d1 : wr.cell? ⟨w.heap.size, 1, none⟩ = some (.int .i64 P) := (blk_cell X0.out 1).trans rfl
      have d2 : wr.cell? ⟨w.heap.size, 2, none⟩ = some (.int .i64 S) := (blk_cell X0.out 2).trans rfl
      have d3 : wr.cell? ⟨w.heap.size, 3, none⟩ = some (.int .i64 R) := (blk_cell X0.out 3).trans rfl
      rcases hend with hend | ⟨hend, hend'⟩
      all_goals
        go_wp2_with fail
        refine (dformat_calls B P S R V0 c0 bad hl6 hcap wr HC.out).mono ?_
        clear d0 d1 d2 d3
        rintro e w1 ⟨V, d, M, cm, Y, cy, rfl, hV, hM, hY, h1⟩
        generalize hfr : fmtR B P S R bad = r at hV hM hY ⊢
        have HFR := Aside0.mk hfr
        clear hfr
        obtain ⟨G1, G2, G3, G4, dl, b1, b2, n, m, y, s, o, er⟩ := r
        dsimp only at hV hM hY ⊢
        replace HC := Aside0.mk (Kd.C_below HC.out h1)
        replace X0 := Aside0.mk (blk_below X0.out h1)
        replace BW := Aside0.mk (below_step BW.out h1)
        have HV := Aside0.mk hV
        have HM := Aside0.mk hM
        have HY := Aside0.mk hY
        have hz : w.heap.size < w1.heap.size := blk_lt X0.out
        clear h1 hV hM hY
        have d0 : w1.cell? ⟨w.heap.size, 0, none⟩ = some (.int .i64 B) := (blk_cell X0.out 0).trans rfl
        have d1 : w1.cell? ⟨w.heap.size, 1, none⟩ = some (.int .i64 P) := (blk_cell X0.out 1).trans rfl
        have d2 : w1.cell? ⟨w.heap.size, 2, none⟩ = some (.int .i64 S) := (blk_cell X0.out 2).trans rfl
        have d3 : w1.cell? ⟨w.heap.size, 3, none⟩ = some (.int .i64 R) := (blk_cell X0.out 3).trans rfl
        go_wp2_with fail
        clear d0 d1 d2 d3
        have bb := below_alloc (Below.refl w1.heap.size w1) (.cells #[.int .i64 G1, .int .i64 G2, .int .i64 G3, .int .i64 G4, .slice V dl.length d, .bool b1, .bool b2, .int .i64 n, .slice M m.length cm, .slice Y y.length cy, .int .i64 s, .int .i64 o] 32)
        have xa := heap_alloc_new w1 (.cells #[.int .i64 G1, .int .i64 G2, .int .i64 G3, .int .i64 G4, .slice V dl.length d, .bool b1, .bool b2, .int .i64 n, .slice M m.length cm, .slice Y y.length cy, .int .i64 s, .int .i64 o] 32)
        generalize w1.alloc (.cells #[.int .i64 G1, .int .i64 G2, .int .i64 G3, .int .i64 G4, .slice V dl.length d, .bool b1, .bool b2, .int .i64 n, .slice M m.length cm, .slice Y y.length cy, .int .i64 s, .int .i64 o] 32) = W1 at bb xa ⊢
        generalize w1.heap.size = ga at xa hz ⊢
        replace HC := Aside0.mk (Kd.C_below HC.out bb)
        replace HV := Aside0.mk (Kd.C_below HV.out bb)
        replace HM := Aside0.mk (Kd.C_below HM.out bb)
        replace HY := Aside0.mk (Kd.C_below HY.out bb)
        replace X0 := Aside0.mk (blk_below X0.out bb)
        replace BW := Aside0.mk (below_step BW.out bb)
        have XA := Aside0.mk xa
        clear xa bb
        have d0 : W1.cell? ⟨w.heap.size, 0, none⟩ = some (.int .i64 B) := (blk_cell X0.out 0).trans rfl
        have d1 : W1.cell? ⟨w.heap.size, 1, none⟩ = some (.int .i64 P) := (blk_cell X0.out 1).trans rfl
        have d2 : W1.cell? ⟨w.heap.size, 2, none⟩ = some (.int .i64 S) := (blk_cell X0.out 2).trans rfl
        have d3 : W1.cell? ⟨w.heap.size, 3, none⟩ = some (.int .i64 R) := (blk_cell X0.out 3).trans rfl
        go_wp2_with fail
        refine (rformat_dev B P S R ⟨hB1, hP1, hS1, hR1⟩ V0 c0 bad W1 HC.out).mono ?_
        clear d0 d1 d2 d3
        intro e w2 hd
        rw [HFR.out] at hd
        obtain ⟨V', d', M', cm', Y', cy', rfl, hV, hM, hY, h1⟩ := hd
        dsimp only at hV hM hY ⊢
        replace HV := Aside0.mk (Kd.C_below HV.out h1)
        replace HM := Aside0.mk (Kd.C_below HM.out h1)
        replace HY := Aside0.mk (Kd.C_below HY.out h1)
        replace X0 := Aside0.mk (blk_below X0.out h1)
        replace XA := Aside0.mk (blk_below XA.out h1)
        replace BW := Aside0.mk (below_step BW.out h1)
        have HV' := Aside0.mk hV
        have HM' := Aside0.mk hM
        have HY' := Aside0.mk hY
        clear h1 hV hM hY HC
        go_wp2_with fail
        have bb := below_alloc (Below.refl w2.heap.size w2) (.cells #[.int .i64 G1, .int .i64 G2, .int .i64 G3, .int .i64 G4, .slice V' dl.length d', .bool b1, .bool b2, .int .i64 n, .slice M' m.length cm', .slice Y' y.length cy', .int .i64 s, .int .i64 o] 32)
        have xb := heap_alloc_new w2 (.cells #[.int .i64 G1, .int .i64 G2, .int .i64 G3, .int .i64 G4, .slice V' dl.length d', .bool b1, .bool b2, .int .i64 n, .slice M' m.length cm', .slice Y' y.length cy', .int .i64 s, .int .i64 o] 32)
        generalize w2.alloc (.cells #[.int .i64 G1, .int .i64 G2, .int .i64 G3, .int .i64 G4, .slice V' dl.length d', .bool b1, .bool b2, .int .i64 n, .slice M' m.length cm', .slice Y' y.length cy', .int .i64 s, .int .i64 o] 32) = W2 at bb xb ⊢
        replace HV := Aside0.mk (Kd.C_below HV.out bb)
        replace HM := Aside0.mk (Kd.C_below HM.out bb)
        replace HY := Aside0.mk (Kd.C_below HY.out bb)
        replace HV' := Aside0.mk (Kd.C_below HV'.out bb)
        replace HM' := Aside0.mk (Kd.C_below HM'.out bb)
        replace HY' := Aside0.mk (Kd.C_below HY'.out bb)
        replace X0 := Aside0.mk (blk_below X0.out bb)
        replace XA := Aside0.mk (blk_below XA.out bb)
        replace BW := Aside0.mk (below_step BW.out bb)
        clear bb hz
        generalize w2.heap.size = gb at xb ⊢
        have XB := Aside0.mk xb
        clear xb
        have hz0 := blk_lt X0.out
        have hza := blk_lt XA.out
        have hzb := blk_lt XB.out
        have g0 : W2.cell? ⟨w.heap.size, 0, none⟩ = some (.int .i64 B) := (blk_cell X0.out 0).trans rfl
        have g1 : W2.cell? ⟨w.heap.size, 1, none⟩ = some (.int .i64 P) := (blk_cell X0.out 1).trans rfl
        have g2 : W2.cell? ⟨w.heap.size, 2, none⟩ = some (.int .i64 S) := (blk_cell X0.out 2).trans rfl
        have g3 : W2.cell? ⟨w.heap.size, 3, none⟩ = some (.int .i64 R) := (blk_cell X0.out 3).trans rfl
        have p0 : W2.cell? ⟨ga, 0, none⟩ = some (.int .i64 G1) := (blk_cell XA.out 0).trans rfl
        have p1 : W2.cell? ⟨ga, 1, none⟩ = some (.int .i64 G2) := (blk_cell XA.out 1).trans rfl
        have p2 : W2.cell? ⟨ga, 2, none⟩ = some (.int .i64 G3) := (blk_cell XA.out 2).trans rfl
        have p3 : W2.cell? ⟨ga, 3, none⟩ = some (.int .i64 G4) := (blk_cell XA.out 3).trans rfl
        have p4 : W2.cell? ⟨ga, 4, none⟩ = some (.slice V dl.length d) := (blk_cell XA.out 4).trans rfl
        have p5 : W2.cell? ⟨ga, 5, none⟩ = some (.bool b1) := (blk_cell XA.out 5).trans rfl
        have p6 : W2.cell? ⟨ga, 6, none⟩ = some (.bool b2) := (blk_cell XA.out 6).trans rfl
        have p7 : W2.cell? ⟨ga, 7, none⟩ = some (.int .i64 n) := (blk_cell XA.out 7).trans rfl
        have p8 : W2.cell? ⟨ga, 8, none⟩ = some (.slice M m.length cm) := (blk_cell XA.out 8).trans rfl
        have p9 : W2.cell? ⟨ga, 9, none⟩ = some (.slice Y y.length cy) := (blk_cell XA.out 9).trans rfl
        have p10 : W2.cell? ⟨ga, 10, none⟩ = some (.int .i64 s) := (blk_cell XA.out 10).trans rfl
        have p11 : W2.cell? ⟨ga, 11, none⟩ = some (.int .i64 o) := (blk_cell XA.out 11).trans rfl
        have q0 : W2.cell? ⟨gb, 0, none⟩ = some (.int .i64 G1) := (blk_cell XB.out 0).trans rfl
        have q1 : W2.cell? ⟨gb, 1, none⟩ = some (.int .i64 G2) := (blk_cell XB.out 1).trans rfl
        have q2 : W2.cell? ⟨gb, 2, none⟩ = some (.int .i64 G3) := (blk_cell XB.out 2).trans rfl
        have q3 : W2.cell? ⟨gb, 3, none⟩ = some (.int .i64 G4) := (blk_cell XB.out 3).trans rfl
        have q4 : W2.cell? ⟨gb, 4, none⟩ = some (.slice V' dl.length d') := (blk_cell XB.out 4).trans rfl
        have q5 : W2.cell? ⟨gb, 5, none⟩ = some (.bool b1) := (blk_cell XB.out 5).trans rfl
        have q6 : W2.cell? ⟨gb, 6, none⟩ = some (.bool b2) := (blk_cell XB.out 6).trans rfl
        have q7 : W2.cell? ⟨gb, 7, none⟩ = some (.int .i64 n) := (blk_cell XB.out 7).trans rfl
        have q8 : W2.cell? ⟨gb, 8, none⟩ = some (.slice M' m.length cm') := (blk_cell XB.out 8).trans rfl
        have q9 : W2.cell? ⟨gb, 9, none⟩ = some (.slice Y' y.length cy') := (blk_cell XB.out 9).trans rfl
        have q10 : W2.cell? ⟨gb, 10, none⟩ = some (.int .i64 s) := (blk_cell XB.out 10).trans rfl
        have q11 : W2.cell? ⟨gb, 11, none⟩ = some (.int .i64 o) := (blk_cell XB.out 11).trans rfl
        obtain ⟨na, hna⟩ := awake_ev
        obtain ⟨nf, hnf⟩ := Q.fits_ev B P S R
        have HNA := Aside0.mk (hna na (Nat.le_refl _))
        have HNF := Aside0.mk (hnf nf (Nat.le_refl _))
        have HRF := Aside0.mk (rfits_eq B P S R ⟨hB1, hP1, hS1, hR1⟩)
        clear hna hnf
        generalize Q.fitsB B P S R = fb at HNF HRF
        go_region_held3 (fun w' => w'.cell? ⟨w.heap.size, 0, none⟩ = some (.int .i64 B) ∧ w'.cell? ⟨w.heap.size, 1, none⟩ = some (.int .i64 P) ∧ w'.cell? ⟨w.heap.size, 2, none⟩ = some (.int .i64 S) ∧ w'.cell? ⟨w.heap.size, 3, none⟩ = some (.int .i64 R) ∧ w'.cell? ⟨ga, 0, none⟩ = some (.int .i64 G1) ∧ w'.cell? ⟨ga, 1, none⟩ = some (.int .i64 G2) ∧ w'.cell? ⟨ga, 2, none⟩ = some (.int .i64 G3) ∧ w'.cell? ⟨ga, 3, none⟩ = some (.int .i64 G4) ∧ w'.cell? ⟨ga, 4, none⟩ = some (.slice V dl.length d) ∧ w'.cell? ⟨ga, 5, none⟩ = some (.bool b1) ∧ w'.cell? ⟨ga, 6, none⟩ = some (.bool b2) ∧ w'.cell? ⟨ga, 7, none⟩ = some (.int .i64 n) ∧ w'.cell? ⟨ga, 8, none⟩ = some (.slice M m.length cm) ∧ w'.cell? ⟨ga, 9, none⟩ = some (.slice Y y.length cy) ∧ w'.cell? ⟨ga, 10, none⟩ = some (.int .i64 s) ∧ w'.cell? ⟨ga, 11, none⟩ = some (.int .i64 o) ∧ w'.cell? ⟨gb, 0, none⟩ = some (.int .i64 G1) ∧ w'.cell? ⟨gb, 1, none⟩ = some (.int .i64 G2) ∧ w'.cell? ⟨gb, 2, none⟩ = some (.int .i64 G3) ∧ w'.cell? ⟨gb, 3, none⟩ = some (.int .i64 G4) ∧ w'.cell? ⟨gb, 4, none⟩ = some (.slice V' dl.length d') ∧ w'.cell? ⟨gb, 5, none⟩ = some (.bool b1) ∧ w'.cell? ⟨gb, 6, none⟩ = some (.bool b2) ∧ w'.cell? ⟨gb, 7, none⟩ = some (.int .i64 n) ∧ w'.cell? ⟨gb, 8, none⟩ = some (.slice M' m.length cm') ∧ w'.cell? ⟨gb, 9, none⟩ = some (.slice Y' y.length cy') ∧ w'.cell? ⟨gb, 10, none⟩ = some (.int .i64 s) ∧ w'.cell? ⟨gb, 11, none⟩ = some (.int .i64 o))
          (exact ⟨kc (by first | assumption | exact below_drew (Below.refl _ _)) hz0 g0, kc (by first | assumption | exact below_drew (Below.refl _ _)) hz0 g1, kc (by first | assumption | exact below_drew (Below.refl _ _)) hz0 g2, kc (by first | assumption | exact below_drew (Below.refl _ _)) hz0 g3, kc (by first | assumption | exact below_drew (Below.refl _ _)) hza p0, kc (by first | assumption | exact below_drew (Below.refl _ _)) hza p1, kc (by first | assumption | exact below_drew (Below.refl _ _)) hza p2, kc (by first | assumption | exact below_drew (Below.refl _ _)) hza p3, kc (by first | assumption | exact below_drew (Below.refl _ _)) hza p4, kc (by first | assumption | exact below_drew (Below.refl _ _)) hza p5, kc (by first | assumption | exact below_drew (Below.refl _ _)) hza p6, kc (by first | assumption | exact below_drew (Below.refl _ _)) hza p7, kc (by first | assumption | exact below_drew (Below.refl _ _)) hza p8, kc (by first | assumption | exact below_drew (Below.refl _ _)) hza p9, kc (by first | assumption | exact below_drew (Below.refl _ _)) hza p10, kc (by first | assumption | exact below_drew (Below.refl _ _)) hza p11, kc (by first | assumption | exact below_drew (Below.refl _ _)) hzb q0, kc (by first | assumption | exact below_drew (Below.refl _ _)) hzb q1, kc (by first | assumption | exact below_drew (Below.refl _ _)) hzb q2, kc (by first | assumption | exact below_drew (Below.refl _ _)) hzb q3, kc (by first | assumption | exact below_drew (Below.refl _ _)) hzb q4, kc (by first | assumption | exact below_drew (Below.refl _ _)) hzb q5, kc (by first | assumption | exact below_drew (Below.refl _ _)) hzb q6, kc (by first | assumption | exact below_drew (Below.refl _ _)) hzb q7, kc (by first | assumption | exact below_drew (Below.refl _ _)) hzb q8, kc (by first | assumption | exact below_drew (Below.refl _ _)) hzb q9, kc (by first | assumption | exact below_drew (Below.refl _ _)) hzb q10, kc (by first | assumption | exact below_drew (Below.refl _ _)) hzb q11⟩)
          (first
            | (go_at_call 9; refine (clinkerlaw14_awake.calls na true _ HNA.out).mono ?_; rintro e w5 ⟨rfl, h5⟩; have hk := below_step (by first | assumption | exact below_drew (Below.refl _ _) : Below W2.heap.size W2 _) h5; clear h5)
            | (go_at_call 10; refine (disk_Fits.calls nf B P S R fb _ HNF.out).mono ?_; rintro e w5 ⟨rfl, h5⟩; have hk := below_step (by first | assumption | exact below_drew (Below.refl _ _) : Below W2.heap.size W2 _) h5; clear h5)
            | (go_at_call 11; refine (clinkerref14_Fits.calls B P S R fb _ HRF.out).mono ?_; rintro e w5 ⟨rfl, h5⟩; have hk := below_step (by first | assumption | exact below_drew (Below.refl _ _) : Below W2.heap.size W2 _) h5; clear h5)
            | (go_at_call 12; refine (same14_calls G1 G2 G3 G4 V V' d d' dl b1 b2 n M M' cm cm' m Y Y' cy cy' y s o _ (Kd.C_below HV.out (by first | assumption | exact below_drew (Below.refl _ _))) (Kd.C_below HV'.out (by first | assumption | exact below_drew (Below.refl _ _))) (Kd.C_below HM.out (by first | assumption | exact below_drew (Below.refl _ _))) (Kd.C_below HM'.out (by first | assumption | exact below_drew (Below.refl _ _))) (Kd.C_below HY.out (by first | assumption | exact below_drew (Below.refl _ _))) (Kd.C_below HY'.out (by first | assumption | exact below_drew (Below.refl _ _)))).mono ?_; rintro e w5 ⟨rfl, h5⟩; have hk := below_step (by first | assumption | exact below_drew (Below.refl _ _) : Below W2.heap.size W2 _) h5; clear h5))
        go_wp2_with fail
        go_ret
        exact ⟨by first | rfl | (simp; done), below_step BW.out (by assumption)⟩

theorem u8_of {a : Int} (h : (Lit.int .u8 a).wf = true) : 0 ≤ a ∧ a ≤ 255 := by simpa [Lit.wf, IntKind.min, IntKind.max, IntKind.signed, IntKind.bits] using h
theorem diskFits_walk (a0 : Int) (a1 : Int) (a2 : Int) (a3 : Int) (a4 : Option Addr) (len4 cap4 : Nat) (z4 : List Int) (w : World) (w0 : (Lit.int .u8 a0).wf = true) (w1 : (Lit.int .u8 a1).wf = true) (w2 : (Lit.int .u8 a2).wf = true) (w3 : (Lit.int .u8 a3).wf = true) (w4 : (a4 = none ∧ len4 = 0 ∧ cap4 = 0 ∧ z4 = []) ∨ ∃ x, a4 = some x ∧ len4 ≤ cap4 ∧ cap4 ≤ maxLen ∧ z4.length = cap4 ∧ (∀ i, i < z4.length → w.cell? (x.add i) = some (.int .u8 (z4.getD i 0))) ∧ ∀ n ∈ z4, (Lit.int .u8 n).wf = true) (y4 : len4 * 1 ≤ 140737488351232) :
    Calls Tryz.prog 3 #[.int .u8 a0, .int .u8 a1, .int .u8 a2, .int .u8 a3, .slice a4 len4 cap4] w fun e w' => e = .returned (.bool true) ∧ Below w.heap.size w w' := by
  obtain ⟨l4, rfl, hr4, hm4, hw4, hc4⟩ := ReadsInt.ofRowC w4
  have r0 := u8_of w0
  have r1 := u8_of w1
  have r2 := u8_of w2
  have r3 := u8_of w3
  obtain ⟨n0, rfl⟩ := Int.eq_ofNat_of_zero_le r0.1
  obtain ⟨n1, rfl⟩ := Int.eq_ofNat_of_zero_le r1.1
  obtain ⟨n2, rfl⟩ := Int.eq_ofNat_of_zero_le r2.1
  obtain ⟨n3, rfl⟩ := Int.eq_ofNat_of_zero_le r3.1
  exact diskFits_calls n0 n1 n2 n3 (by omega) (by omega) (by omega) (by omega) _ _ l4 w (Kd.C_of_reads (d := (0 : Int)) (h1 := fun _ => rfl) hr4) (fun x hx => u8_of (hw4 x hx))
end Go.Proofs.YtnfappdaoeiilaaGreat.PD
