/- Written for this claim: what clinkerlaw14.DiskRoom's function of its arguments answers, in plain Lean. -/
import Derived.Test.YtnfappdaoeiilaaPDx8
import Derived.Test.YtnfappdaoeiilaaQB
import Derived.Test.YtnfappdaoeiilaaHAwake
namespace Go.Proofs.Ytnfappdaoeiilaa.Pure
open Go.RowKit Go.Proofs.Ytnfappdaoeiilaa.PD Go.Proofs.Ytnfappdaoeiilaa.Q Go.Proofs.YtnfappdaoeiilaaW.PrintWords Go.Proofs.YtnfappdaoeiilaaW.PrintLast
set_option linter.unusedVariables false
set_option linter.unusedSimpArgs false
theorem state_pages (P : Nat) (hP : P ≤ 16) (b : Bool) : ∀ (d j : Nat), d = P - j → j ≤ P → Evt (fun k => clinkerref10_State.l0 k (j : Int) (List.replicate P z52) 0 0 b) (0 : Int) := by
  intro d
  induction d with
  | zero =>
    intro j hd hj
    refine Evt.succ (g := fun _ => some (0 : Int)) (Evt.const _) fun k => ?_
    rw [clinkerref10_State.l0, if_neg (by rw [List.length_replicate]; omega), if_pos rfl]
  | succ d ih =>
    intro j hd hj
    refine (ih (j + 1) (by omega) (by omega)).succ fun k => ?_
    have hz : (rd_T52 (List.replicate P z52) (j : Int)).f0 = false := by
      unfold rd_T52
      rw [Int.toNat_natCast, List.getD_eq_getElem?_getD, List.getElem?_replicate, if_pos (by omega)]; rfl
    rw [clinkerref10_State.l0, if_pos (by rw [List.length_replicate]; omega), if_pos (by omega), if_neg (by rw [hz]; simp), w64 (by omega) (by omega)]; rfl
theorem state_ev (P : Nat) (hP : P ≤ 16) (ms : List Bool) (hlen : ms.length ≤ 32) (i : Nat) (hi : i < ms.length) (b1 b2 : Bool) (n : Int) :
    Evt (fun k => clinkerref10_State.f k (ms.map (freshB P)) b1 b2 n (-1) (i : Int)) (if ms.getD i false = true then 3 else 0) := by
  unfold clinkerref10_State.f
  refine Evt.neg (by omega) (Evt.neg (by rw [List.length_map]; omega) (Evt.pos (by omega) (Evt.pos (by rw [List.length_map]; omega) ?_)))
  simp only [rd_map P ms i hi]
  cases hm : ms.getD i false with
  | true =>
    refine Evt.succ (g := fun _ => some (3 : Int)) (Evt.const _) fun k => ?_
    rw [clinkerref10_State.j0, if_pos (show (freshB P true).f3 = true from rfl)]
  | false =>
    refine Evt.succ (Evt.succ (state_pages P hP false P 0 rfl (by omega)) (g' := fun k => clinkerref10_State.j1 k false (List.replicate P z52) 0 0 false) fun k => ?_) fun k => ?_
    · show clinkerref10_State.j1 (k + 1) false _ _ _ _ = _
      rw [clinkerref10_State.j1, if_neg (by simp)]; rfl
    · show clinkerref10_State.j0 (k + 1) _ _ _ _ _ _ _ = _
      rw [clinkerref10_State.j0, if_neg (by simp [freshB]), if_pos (by omega), if_pos (by rw [List.length_map]; omega), if_neg (by omega), rd_map P ms i hi, hm]; rfl
theorem reserve_ev (B P S R : Nat) (hR : R ≤ 32) (ms : List Bool) (hlen : ms.length ≤ 32) (b1 b2 : Bool) (n : Int) (m y : List Int) (a b : Int) :
    Evt (fun k => disk_Reserve.f k B P S R (ms.map (freshB P)) b1 b2 n m y a b) (2 + 2 * (mx ((R : Int) - ((ms.count true : Nat) : Int)) 0)) := by
  unfold disk_Reserve.f
  refine Evt.bind (bads_ev P ms hlen _ _ _) (Evt.eq fun k => ?_)
  have hc : ms.count true ≤ ms.length := List.count_le_length
  rw [w64 (x := (R : Int) - ((ms.count true : Nat) : Int)) (by omega) (by omega)]
  have hm : 0 ≤ mx ((R : Int) - ((ms.count true : Nat) : Int)) 0 ∧ mx ((R : Int) - ((ms.count true : Nat) : Int)) 0 ≤ 32 := by unfold mx; split <;> omega
  rw [w64 (x := 2 * mx ((R : Int) - ((ms.count true : Nat) : Int)) 0) (by omega) (by omega), w64 (by omega) (by omega)]
theorem room (B P S R nb : Nat) (hf : fitsB B P S R = true) (hn : nb ≤ R) : 2 + 2 * (mx ((R : Int) - (nb : Int)) 0) < (B : Int) - (nb : Int) := by
  unfold fitsB at hf
  rw [decide_eq_true_iff] at hf
  obtain ⟨h1, h2, h3, h4, h5, h6, h7, h8, h9⟩ := hf
  have hpos : 0 < (B : Int) - 2 * R - 3 := by
    by_cases h : 0 < (B : Int) - 2 * R - 3
    · exact h
    · have : ((B : Int) - 2 * R - 3) * P ≤ 0 := Int.mul_nonpos_of_nonpos_of_nonneg (by omega) (by omega)
      omega
  unfold mx
  split <;> omega
theorem idx_facts (d j L c q : Nat) (hd : d + 1 = L - j) (hj : j ≤ L) (hL : L ≤ 32) (h : c + q = j) : d = L - (j + 1) ∧ j + 1 ≤ L ∧ c + (q + 1) = j + 1 ∧ c + 1 + (q + 0) = j + 1 ∧ (j : Int) < (L : Int) ∧ wrap64 ((j : Int) + 1) = ((j + 1 : Nat) : Int) ∧ wrap64 ((c : Int) + 1) = ((c + 1 : Nat) : Int) ∧ j < L :=
  ⟨by omega, by omega, by omega, by omega, by omega, by rw [w64 (by omega) (by omega)]; rfl, by rw [w64 (by omega) (by omega)]; rfl, by omega⟩
theorem room_l1 (B P S R : Nat) (hB : B ≤ 32) (hf : fitsB B P S R = true) (ms : List Bool) (hl : ms.length = B) (hc : ms.count true ≤ R) (b1 b2 : Bool) (n : Int) (m y : List Int) (a b : Int) : ∀ (d j c : Nat), d = ms.length - j → j ≤ ms.length → c + (ms.take j).count true = j →
    Evt (fun k => clinkerlaw14_DiskRoom.l1 k true (c : Int) (j : Int) B P S R B P S R (ms.map (freshB P)) b1 b2 n m y a b) true := by
  have hr : P ≤ 16 ∧ R ≤ 32 := by unfold fitsB at hf; rw [decide_eq_true_iff] at hf; omega
  intro d
  induction d with
  | zero =>
    intro j c hd hj hcj
    obtain rfl : j = ms.length := by omega
    rw [List.take_length] at hcj
    have hroom := room B P S R _ hf hc
    refine Evt.succ (g := fun k => (disk_Fits.f k B P S R).bind fun t => (if t = true then ((disk_Reserve.f k B P S R (ms.map (freshB P)) b1 b2 n m y a b).bind fun t409 => (some (decide ((c : Int) > t409)))) else (some false))) ?_ fun k => ?_
    · refine Evt.bind (hf ▸ fits_ev B P S R) ?_
      simp only [if_true]
      refine Evt.bind (reserve_ev B P S R hr.2 ms (by omega) _ _ _ _ _ _ _) (Evt.eq fun k => ?_)
      congr 1
      rw [decide_eq_true_iff]
      omega
    · rw [clinkerlaw14_DiskRoom.l1, if_neg (by rw [List.length_map]; omega), if_pos rfl]
  | succ d ih =>
    intro j c hd hj hcj
    obtain ⟨e1, e2, e3, e4, e5, hw, hw2, hj'⟩ := idx_facts d j ms.length c _ hd hj (hl ▸ hB) hcj
    have e6 : ms.length ≤ 32 := hl ▸ hB
    have hs := state_ev P hr.1 ms e6 j hj' b1 b2 n
    have htk : (ms.take (j + 1)).count true = (ms.take j).count true + (if ms.getD j false = true then 1 else 0) := by
      rw [List.take_succ_eq_append_getElem hj', List.count_append, List.getD_eq_getElem?_getD, List.getElem?_eq_getElem hj']
      cases hm : ms[j] <;> simp
    cases hm : ms.getD j false with
    | true =>
      rw [hm, if_pos rfl] at hs htk
      have := ih (j + 1) c e1 e2 (by rw [htk]; exact e3)
      refine Evt.succ (g := fun k => (clinkerref10_State.f k (ms.map (freshB P)) b1 b2 n (-1) (j : Int)).bind fun t407 => (if t407 = 0 then (clinkerlaw14_DiskRoom.l1 k true (wrap64 ((c : Int) + 1)) (wrap64 ((j : Int) + 1)) B P S R B P S R (ms.map (freshB P)) b1 b2 n m y a b) else (clinkerlaw14_DiskRoom.l1 k true (c : Int) (wrap64 ((j : Int) + 1)) B P S R B P S R (ms.map (freshB P)) b1 b2 n m y a b))) ?_ fun k => ?_
      · refine Evt.bind hs (Evt.neg (by simp) ?_)
        simp only [hw]
        exact this
      · rw [clinkerlaw14_DiskRoom.l1, if_pos (by rw [List.length_map]; exact e5)]
    | false =>
      rw [hm, if_neg (by decide)] at hs htk
      have := ih (j + 1) (c + 1) e1 e2 (by rw [htk]; exact e4)
      refine Evt.succ (g := fun k => (clinkerref10_State.f k (ms.map (freshB P)) b1 b2 n (-1) (j : Int)).bind fun t407 => (if t407 = 0 then (clinkerlaw14_DiskRoom.l1 k true (wrap64 ((c : Int) + 1)) (wrap64 ((j : Int) + 1)) B P S R B P S R (ms.map (freshB P)) b1 b2 n m y a b) else (clinkerlaw14_DiskRoom.l1 k true (c : Int) (wrap64 ((j : Int) + 1)) B P S R B P S R (ms.map (freshB P)) b1 b2 n m y a b))) ?_ fun k => ?_
      · refine Evt.bind hs (Evt.pos (by simp) ?_)
        simp only [hw, hw2]
        exact this
      · rw [clinkerlaw14_DiskRoom.l1, if_pos (by rw [List.length_map]; exact e5)]
abbrev Dev := Int × Int × Int × Int × (List S50) × Bool × Bool × Int × List Int × List Int × Int × Int × Int
def after (k : Nat) (B P S R : Int) (bt : Dev) : Option Bool := if bt.2.2.2.2.2.2.2.2.2.2.2.2 = 0 then (clinkerlaw14_DiskRoom.l1 k true 0 0 B P S R bt.1 bt.2.1 bt.2.2.1 bt.2.2.2.1 bt.2.2.2.2.1 bt.2.2.2.2.2.1 bt.2.2.2.2.2.2.1 bt.2.2.2.2.2.2.2.1 bt.2.2.2.2.2.2.2.2.1 bt.2.2.2.2.2.2.2.2.2.1 bt.2.2.2.2.2.2.2.2.2.2.1 bt.2.2.2.2.2.2.2.2.2.2.2.1) else (some ((bt.2.2.2.2.1.length : Int) == 0))
theorem after_bad (k : Nat) (B P S R : Int) : after k B P S R badly = some true := by
  unfold after; exact if_neg (by decide)
theorem after_ok (k : Nat) (B P S R b p s r : Int) (l : List S50) (b1 b2 : Bool) (n : Int) (m y : List Int) (q o : Int) : after k B P S R (b, p, s, r, l, b1, b2, n, m, y, q, o, 0) = clinkerlaw14_DiskRoom.l1 k true 0 0 B P S R b p s r l b1 b2 n m y q o := by
  unfold after; exact if_pos rfl
theorem room_j1 (B P S R : Nat) (bad : List Int) (hlen : bad.length < 100) (h0 : ∀ x ∈ bad, 0 ≤ x) : Evt (fun k => clinkerlaw14_DiskRoom.j1 k true bad B P S R) true := by
  rcases format_ev B P S R bad hlen h0 with he | ⟨hf, ms, hl, hc, he⟩
  · refine Evt.succ (g := fun k => (disk_Format.f k B P S R bad).bind (after k B P S R)) ?_ fun k => ?_
    · exact Evt.bind he (Evt.eq fun k => after_bad k _ _ _ _)
    · rw [clinkerlaw14_DiskRoom.j1]; rfl
  · have hB : B ≤ 32 := by unfold fitsB at hf; rw [decide_eq_true_iff] at hf; omega
    refine Evt.succ (g := fun k => (disk_Format.f k B P S R bad).bind (after k B P S R)) ?_ fun k => ?_
    · refine Evt.bind he (Evt.congr ?_ fun k => after_ok k _ _ _ _ _ _ _ _ _ _ _ _ _ _ _ _)
      exact room_l1 B P S R hB hf ms hl hc _ _ _ _ _ _ _ ms.length 0 0 rfl (by omega) (by simp)
    · rw [clinkerlaw14_DiskRoom.j1]; rfl
theorem room_l0 (l : List Int) (hl : ∀ x ∈ l, 0 ≤ x ∧ x ≤ 255) (B P S R : Nat) : ∀ (d j : Nat) (bad : List Int), d = 15 - j → j ≤ 15 → bad.length = j → (∀ x ∈ bad, 0 ≤ x) →
    Evt (fun k => clinkerlaw14_DiskRoom.l0 k l true bad (j : Int) B P S R) true := by
  intro d
  induction d with
  | zero =>
    intro j bad hd hj hb h0
    refine (room_j1 B P S R bad (by omega) h0).succ fun k => ?_
    rw [clinkerlaw14_DiskRoom.l0]
    split
    · split
      · rw [if_neg (by omega)]
      · rfl
    · rfl
  | succ d ih =>
    intro j bad hd hj hb h0
    by_cases h1 : (j : Int) < (l.length : Int)
    · by_cases h2 : (j : Int) < (R : Int)
      · have hx : rd l (j : Int) ∈ l := by
          unfold rd; rw [Int.toNat_natCast, List.getD_eq_getElem?_getD, List.getElem?_eq_getElem (by omega)]; exact List.getElem_mem (by omega)
        obtain ⟨e0, e1⟩ := hl _ hx
        have hw : wrap64 (rd l (j : Int)) = rd l (j : Int) := w64 (by omega) (by omega)
        refine (ih (j + 1) (bad ++ [Int.tmod (rd l (j : Int)) 33]) (by omega) (by omega) (by simp [hb]) ?_).succ fun k => ?_
        · intro x hx'
          rcases List.mem_append.mp hx' with h | h
          · exact h0 x h
          · rw [List.mem_singleton.mp h]; exact Int.tmod_nonneg _ e0
        · rw [clinkerlaw14_DiskRoom.l0, if_pos h1, if_pos h2, if_pos (by omega), if_pos (by omega), if_pos (by omega), hw, w64 (by omega) (by omega)]; rfl
      · refine (room_j1 B P S R bad (by omega) h0).succ fun k => ?_
        rw [clinkerlaw14_DiskRoom.l0, if_pos h1, if_neg h2]
    · refine (room_j1 B P S R bad (by omega) h0).succ fun k => ?_
      rw [clinkerlaw14_DiskRoom.l0, if_neg h1]
theorem awake_ev : Evt (fun k => clinkerlaw14_awake.f k) true := Evt.of_mono (clinkerlaw14_awake.mono) (n := 60) (by kernel_rfl)
theorem small {a : Int} (h : (Lit.int .u8 a).wf = true) : 0 ≤ a ∧ a ≤ 255 := by
  simpa [Lit.wf, IntKind.min, IntKind.max, IntKind.signed, IntKind.bits] using h
theorem part {a : Int} (m : Nat) (hm : 0 < m) (h : (Lit.int .u8 a).wf = true) : ∃ n : Nat, Int.tmod (wrap64 a) (m : Int) = (n : Int) := by
  obtain ⟨h0, h1⟩ := small h
  rw [w64 (by omega) (by omega)]
  exact Int.eq_ofNat_of_zero_le (Int.tmod_nonneg _ h0)
theorem DiskRoom : clinkerlaw14_DiskRoom.Pure := by
  intro a0 a1 a2 a3 l4 w0 w1 w2 w3 _ _ hl
  obtain ⟨B, e0⟩ := part 33 (by omega) w0
  obtain ⟨P, e1⟩ := part 17 (by omega) w1
  obtain ⟨S, e2⟩ := part 65 (by omega) w2
  obtain ⟨R, e3⟩ := part 16 (by omega) w3
  have : Evt (fun k => clinkerlaw14_DiskRoom.f k a0 a1 a2 a3 l4) true := by
    unfold clinkerlaw14_DiskRoom.f
    refine Evt.bind awake_ev ?_
    simp only [if_true]
    have := room_l0 l4 (fun x hx => small (hl x hx)) B P S R 15 0 [] rfl (by omega) rfl (by simp)
    simp only [← e0, ← e1, ← e2, ← e3] at this
    exact this
  obtain ⟨n, hn⟩ := this
  exact ⟨n, hn n (Nat.le_refl n)⟩
end Go.Proofs.Ytnfappdaoeiilaa.Pure
