/- More worth, or more often, is not less; a longer document is not more: the plain law. -/
import Derived.Test.YtgkeemjadjnhkaaGreatDoorHeld
import Derived.Test.YtgkeemjadjnhkaaGreatDoorNumDiv
namespace Go.Proofs.YtgkeemjadjnhkaaGreatDoor.PureW
open Go.RowKit Go.Proofs.YtgkeemjadjnhkaaGreatDoor.PScore Go.Proofs.YtgkeemjadjnhkaaGreatDoorW.PrintWords Go.Proofs.YtgkeemjadjnhkaaGreatDoorW.PrintLast Go.Proofs.YtgkeemjadjnhkaaGreatDoorW.PrintMore Go.Proofs.YtgkeemjadjnhkaaGreatDoor.Num
set_option linter.unusedSimpArgs false
set_option linter.unusedVariables false

/-- The share that a document's length has. -/
def lengthy (l d t : Int) : Int := 65536 * (3 * t + 9 * l * d) / (10 * t)
def below (n l d t : Int) : Int := 10 * (65536 * n + lengthy l d t)
def weighs (w n l d t : Int) : Int := wrap64 (22 * w * (65536 * n) / below n l d t)

theorem area (l d : Int) (h1 : 1 ≤ l) (h2 : l ≤ 1048576) (h3 : 1 ≤ d) (h4 : d ≤ 1048576) : 0 ≤ 9 * l * d ∧ 9 * l * d ≤ 9895604649984 := by
  constructor
  · exact Int.mul_nonneg (by omega) (by omega)
  · have : 9 * l * d ≤ 9437184 * 1048576 := Int.mul_le_mul (by omega) (by omega) (by omega) (by omega)
    omega

theorem lengthy_in (l d t : Int) (h1 : 1 ≤ l) (h2 : l ≤ 1048576) (h3 : 1 ≤ d) (h4 : d ≤ 1048576) (h5 : 1 ≤ t) (h6 : t ≤ 1099511627776) :
    0 ≤ lengthy l d t ∧ lengthy l d t ≤ 86469112845513523 := by
  have ha := area l d h1 h2 h3 h4
  unfold lengthy
  generalize 9 * l * d = m at *
  constructor
  · exact Int.ediv_nonneg (by omega) (by omega)
  · have e : 65536 * (3 * t + m) / (10 * t) ≤ 65536 * (3 * t + m) / 10 := by
      rw [← Int.ediv_ediv_of_nonneg (by omega)]
      exact Int.ediv_le_self _ (by omega)
    omega

theorem below_in (n l d t : Int) (h7 : 1 ≤ n) (h8 : n ≤ 1048576) (h1 : 1 ≤ l) (h2 : l ≤ 1048576) (h3 : 1 ≤ d) (h4 : d ≤ 1048576) (h5 : 1 ≤ t) (h6 : t ≤ 1099511627776) :
    65536 * n ≤ below n l d t ∧ below n l d t < 1152921504606846976 := by
  have := lengthy_in l d t h1 h2 h3 h4 h5 h6
  unfold below
  omega

theorem weight_own (w n l d t : Int) (w0 : 0 ≤ w) (w1 : w ≤ 1099511627776) (h7 : 1 ≤ n) (h8 : n ≤ 1048576) (h1 : 1 ≤ l) (h2 : l ≤ 1048576) (h3 : 1 ≤ d) (h4 : d ≤ 1048576) (h5 : 1 ≤ t) (h6 : t ≤ 1099511627776) :
    Ev (fun k => score_Weight.f k w n l d t) (weighs w n l d t) := by
  have ha := area l d h1 h2 h3 h4
  have hl := lengthy_in l d t h1 h2 h3 h4 h5 h6
  have hb := below_in n l d t h7 h8 h1 h2 h3 h4 h5 h6
  have hP : 22 * w * (65536 * n) ≤ 22 * w * below n l d t := Int.mul_le_mul_of_nonneg_left hb.1 (by omega)
  have hP0 : 0 ≤ 22 * w * (65536 * n) := Int.mul_nonneg (by omega) (by omega)
  have hP1 : 22 * w * below n l d t ≤ 24189255811072 * below n l d t := Int.mul_le_mul_of_nonneg_right (by omega) (by omega)
  have hi1 : 22 * w * (65536 * n) / 18446744073709551616 < below n l d t := Int.ediv_lt_of_lt_mul (by omega) (by omega)
  obtain ⟨r2, E⟩ := div64_is (22 * w * (65536 * n) / 18446744073709551616) (22 * w * (65536 * n) % 18446744073709551616) (below n l d t) (Int.ediv_nonneg hP0 (by omega)) hi1 (by omega) (by omega) (by omega)
  have hj : (22 * w * (65536 * n) / 18446744073709551616 * 18446744073709551616 + 22 * w * (65536 * n) % 18446744073709551616) = 22 * w * (65536 * n) := by omega
  rw [hj] at E
  have hm := mul64_of (22 * w) (65536 * n) (by omega) (by omega) (by omega) (by omega)
  have e1 : IntKind.u64.wrap (22 * IntKind.u64.wrap w) = 22 * w := by rw [u64s w (by omega) (by omega)]; exact u64s _ (by omega) (by omega)
  have e2 : IntKind.u64.wrap (65536 * IntKind.u64.wrap n) = 65536 * n := by rw [u64s n (by omega) (by omega)]; exact u64s _ (by omega) (by omega)
  have e3 : IntKind.u64.wrap (10 * IntKind.u64.wrap t) = 10 * t := by rw [u64s t (by omega) (by omega)]; exact u64s _ (by omega) (by omega)
  have e4 : IntKind.u64.wrap (IntKind.u64.wrap (9 * IntKind.u64.wrap l) * IntKind.u64.wrap d) = 9 * l * d := by
    rw [u64s l (by omega) (by omega), u64s d (by omega) (by omega), u64s (9 * l) (by omega) (by omega)]; exact u64s _ ha.1 (by omega)
  have e5 : IntKind.u64.wrap (IntKind.u64.wrap (3 * IntKind.u64.wrap t) + IntKind.u64.wrap (IntKind.u64.wrap (9 * IntKind.u64.wrap l) * IntKind.u64.wrap d)) = 3 * t + 9 * l * d := by
    rw [e4, u64s t (by omega) (by omega), u64s (3 * t) (by omega) (by omega)]; exact u64s _ (by omega) (by omega)
  have e6 : IntKind.u64.wrap (Int.tdiv (IntKind.u64.wrap (65536 * (3 * t + 9 * l * d))) (10 * t)) = lengthy l d t := by
    rw [u64s (65536 * (3 * t + 9 * l * d)) (by omega) (by omega), Int.tdiv_eq_ediv_of_nonneg (by omega)]
    exact u64s _ hl.1 (by have := hl.2; unfold lengthy at this; omega)
  have e7 : IntKind.u64.wrap (10 * IntKind.u64.wrap (65536 * n + lengthy l d t)) = below n l d t := by
    unfold below
    rw [u64s (65536 * n + lengthy l d t) (by omega) (by omega)]; exact u64s _ (by omega) (by omega)
  refine Ev.step (f := fun k => (bits_Div64.f k (22 * w * (65536 * n) / 18446744073709551616) (22 * w * (65536 * n) % 18446744073709551616) (below n l d t)).bind fun b => some (wrap64 b.1)) (fun k => ?_) (Ev.bind E (Ev.now _))
  unfold score_Weight.f
  rw [if_neg (by omega), if_neg (by omega), if_neg (by omega), if_neg (by omega), if_neg (by omega), if_neg (by omega), if_neg (by omega), if_neg (by omega), if_neg (by omega),
    decide_eq_false (show ¬ t > 1099511627776 by omega)]
  simp only [score_Weight.j0]
  rw [if_neg (by decide), e1, e2, e3, if_neg (by omega), hm, e5, e6, e7]
  simp only [Option.bind_some]


/-- Beside what has a weight: none. -/
theorem weight_out (w n l d t : Int) (h : ¬ (0 ≤ w ∧ w ≤ 1099511627776 ∧ 1 ≤ n ∧ n ≤ 1048576 ∧ 1 ≤ l ∧ l ≤ 1048576 ∧ 1 ≤ d ∧ d ≤ 1048576 ∧ 1 ≤ t ∧ t ≤ 1099511627776)) : Ev (fun k => score_Weight.f k w n l d t) 0 := by
  refine ⟨1, fun k hk => ?_⟩
  obtain ⟨k, rfl⟩ : ∃ m, k = m + 1 := ⟨k - 1, by omega⟩
  have hy : score_Weight.j0 (k + 1) w n l d t true = some 0 := by simp only [score_Weight.j0, if_true]
  show score_Weight.f (k + 1) w n l d t = some 0
  unfold score_Weight.f
  rw [hy]
  repeat' split
  all_goals (first | rfl | skip)
  rw [decide_eq_true (by omega), hy]
def In (w n l d t : Int) : Prop := 0 ≤ w ∧ w ≤ 1099511627776 ∧ 1 ≤ n ∧ n ≤ 1048576 ∧ 1 ≤ l ∧ l ≤ 1048576 ∧ 1 ≤ d ∧ d ≤ 1048576 ∧ 1 ≤ t ∧ t ≤ 1099511627776
/-- The quotient, and what bounds it. -/
theorem quot {w n l d t : Int} (h : In w n l d t) : ∃ q, weighs w n l d t = q ∧ 0 ≤ q ∧ q * below n l d t ≤ 22 * w * (65536 * n) ∧ 22 * w * (65536 * n) < (q + 1) * below n l d t ∧ 10 * q ≤ 22 * w := by
  obtain ⟨a0, a1, a2, a3, a4, a5, a6, a7, a8, a9⟩ := h
  have hb := below_in n l d t a2 a3 a4 a5 a6 a7 a8 a9
  have hl := lengthy_in l d t a4 a5 a6 a7 a8 a9
  have hP0 : 0 ≤ 22 * w * (65536 * n) := Int.mul_nonneg (by omega) (by omega)
  have hB : 0 < below n l d t := by omega
  refine ⟨22 * w * (65536 * n) / below n l d t, ?_, Int.ediv_nonneg hP0 (by omega), Int.ediv_mul_le _ (by omega), Int.lt_mul_of_ediv_lt hB (by omega), ?_⟩
  · have h1 : 22 * w * (65536 * n) / below n l d t ≤ 22 * w := by
      have : 22 * w * (65536 * n) ≤ 22 * w * below n l d t := Int.mul_le_mul_of_nonneg_left hb.1 (by omega)
      exact Int.ediv_le_of_le_mul hB this
    have h0 := Int.ediv_nonneg hP0 (Int.le_of_lt hB)
    unfold weighs
    exact w64s _ (by omega) (by omega)
  · have hq := Int.ediv_mul_le (22 * w * (65536 * n)) (b := below n l d t) (by omega)
    generalize hqq : 22 * w * (65536 * n) / below n l d t = q at *
    have hq0 : 0 ≤ q := by rw [← hqq]; exact Int.ediv_nonneg hP0 (by omega)
    have e1 : below n l d t = 10 * (65536 * n) + 10 * lengthy l d t := by unfold below; omega
    have e2 : q * below n l d t = 10 * q * (65536 * n) + q * (10 * lengthy l d t) := by
      rw [e1, Int.mul_add, Int.mul_comm 10 q, Int.mul_assoc q 10 _]
    have e3 : 0 ≤ q * (10 * lengthy l d t) := Int.mul_nonneg hq0 (by omega)
    have e4 : 10 * q * (65536 * n) ≤ 22 * w * (65536 * n) := by omega
    exact Int.le_of_mul_le_mul_right e4 (by omega)
theorem le_quot {q P B q' : Int} (hB : 0 < B) (h1 : q * B ≤ P) (h2 : P < (q' + 1) * B) : q ≤ q' := by
  have : q * B < (q' + 1) * B := by omega
  have := Int.lt_of_mul_lt_mul_right this (by omega)
  omega
theorem below_pos {w n l d t : Int} (h : In w n l d t) : 0 < below n l d t := by
  obtain ⟨a0, a1, a2, a3, a4, a5, a6, a7, a8, a9⟩ := h
  have hb := below_in n l d t a2 a3 a4 a5 a6 a7 a8 a9
  omega
theorem more_worth {w n l d t : Int} (h : In w n l d t) (h' : In (w + 1) n l d t) : weighs w n l d t ≤ weighs (w + 1) n l d t := by
  obtain ⟨q, e, h0, h1, h2, h3⟩ := quot h
  obtain ⟨r, e', g0, g1, g2, g3⟩ := quot h'
  rw [e, e']
  have : 22 * w * (65536 * n) ≤ 22 * (w + 1) * (65536 * n) := Int.mul_le_mul_of_nonneg_right (by omega) (by have := h.2.2.1; omega)
  exact le_quot (below_pos h) (Int.le_trans h1 this) g2
theorem more_often {w n l d t : Int} (h : In w n l d t) (h' : In w (n + 1) l d t) : weighs w n l d t ≤ weighs w (n + 1) l d t := by
  obtain ⟨q, e, h0, h1, h2, h3⟩ := quot h
  obtain ⟨r, e', g0, g1, g2, g3⟩ := quot h'
  rw [e, e']
  refine le_quot (below_pos h') ?_ g2
  have e1 : below (n + 1) l d t = below n l d t + 655360 := by unfold below; omega
  have e2 : q * below (n + 1) l d t = q * below n l d t + q * 655360 := by rw [e1, Int.mul_add]
  have e3 : 22 * w * (65536 * (n + 1)) = 22 * w * (65536 * n) + 22 * w * 65536 := by rw [Int.mul_add 65536 n 1, Int.mul_add]; omega
  omega
theorem longer {w n l d t : Int} (h : In w n l d t) (h' : In w n (l + 1) d t) : weighs w n (l + 1) d t ≤ weighs w n l d t := by
  obtain ⟨q, e, h0, h1, h2, h3⟩ := quot h
  obtain ⟨r, e', g0, g1, g2, g3⟩ := quot h'
  rw [e, e']
  refine le_quot (below_pos h) (Int.le_trans ?_ g1) h2
  have hd := h.2.2.2.2.2.2.1
  have ht := h.2.2.2.2.2.2.2.2.1
  have e1 : 9 * (l + 1) * d = 9 * l * d + 9 * d := by rw [Int.mul_add 9 l 1, Int.add_mul]; omega
  have hL : lengthy l d t ≤ lengthy (l + 1) d t := by
    unfold lengthy
    rw [e1]
    exact Int.ediv_le_ediv (by omega) (by omega)
  have hBB : below n l d t ≤ below n (l + 1) d t := by unfold below; omega
  exact Int.mul_le_mul_of_nonneg_left hBB g0
theorem own (w n l d t : Int) (h : In w n l d t) : Ev (fun k => score_Weight.f k w n l d t) (weighs w n l d t) := by
  obtain ⟨a0, a1, a2, a3, a4, a5, a6, a7, a8, a9⟩ := h
  exact weight_own w n l d t a0 a1 a2 a3 a4 a5 a6 a7 a8 a9
theorem ScoreWeights : lecternlaw21_ScoreWeights.Pure := by
  intro w n l d t hw hn hl hd ht
  have hw := wf64 w hw
  have hn := wf64 n hn
  have hl := wf64 l hl
  have hd := wf64 d hd
  have ht := wf64 t ht
  by_cases h : 0 ≤ w ∧ w < 1099511627776 ∧ 1 ≤ n ∧ n < 1048576 ∧ 1 ≤ l ∧ l < 1048576 ∧ 1 ≤ d ∧ d ≤ 1048576 ∧ 1 ≤ t ∧ t ≤ 1099511627776
  · have i0 : In w n l d t := by unfold In; omega
    have i1 : In (w + 1) n l d t := by unfold In; omega
    have i2 : In w (n + 1) l d t := by unfold In; omega
    have i3 : In w n (l + 1) d t := by unfold In; omega
    obtain ⟨K0, E0⟩ := own _ _ _ _ _ i0
    obtain ⟨K1, E1⟩ := own _ _ _ _ _ i1
    obtain ⟨K2, E2⟩ := own _ _ _ _ _ i2
    obtain ⟨K3, E3⟩ := own _ _ _ _ _ i3
    refine ⟨K0 + K1 + K2 + K3 + 1, ?_⟩
    generalize hk : K0 + K1 + K2 + K3 = k
    have z0 : score_Weight.f (k + 1) w n l d t = some (weighs w n l d t) := E0 (k + 1) (by omega)
    have z1 : score_Weight.f k (w + 1) n l d t = some (weighs (w + 1) n l d t) := E1 k (by omega)
    have z2 : score_Weight.f k w (n + 1) l d t = some (weighs w (n + 1) l d t) := E2 k (by omega)
    have z3 : score_Weight.f k w n (l + 1) d t = some (weighs w n (l + 1) d t) := E3 k (by omega)
    have m1 := more_worth i0 i1
    have m2 := more_often i0 i2
    have m3 := longer i0 i3
    obtain ⟨q, e, h0, h1, h2, h3⟩ := quot i0
    rw [e] at m1 m2 m3 z0
    have v1 : wrap64 (w + 1) = w + 1 := w64s _ (by omega) (by omega)
    have v2 : wrap64 (n + 1) = n + 1 := w64s _ (by omega) (by omega)
    have v3 : wrap64 (l + 1) = l + 1 := w64s _ (by omega) (by omega)
    have v4 : wrap64 (w * 22) = w * 22 := w64s _ (by omega) (by omega)
    have v5 : wrap64 (Int.tdiv (w * 22) 10) = w * 22 / 10 := by
      rw [Int.tdiv_eq_ediv_of_nonneg (by omega)]
      exact w64s _ (by omega) (by omega)
    have hj : lecternlaw21_ScoreWeights.j0 (k + 1) w n l d t q false = some true := by
      simp only [lecternlaw21_ScoreWeights.j0, v1, v2, v3, v4, v5, z1, z2, z3, Option.bind_some]
      rw [if_neg (by simp), if_pos h0, if_pos m1, if_pos m2, if_pos m3, decide_eq_true (by omega)]
    unfold lecternlaw21_ScoreWeights.f lecternlaw21_known.f
    simp only [Option.bind_some, if_true, z0]
    rw [if_neg (by omega), if_neg (by omega), if_neg (by omega), if_neg (by omega), if_neg (by omega), if_neg (by omega), if_neg (by omega), if_neg (by omega), if_neg (by omega), decide_eq_false (by omega)]
    exact hj
  · have hr : ∃ r, Ev (fun k => score_Weight.f k w n l d t) r ∧ 0 ≤ r := by
      by_cases hi : In w n l d t
      · obtain ⟨q, e, h0, _⟩ := quot hi
        exact ⟨_, own _ _ _ _ _ hi, by rw [e]; exact h0⟩
      · exact ⟨0, weight_out w n l d t hi, Int.le_refl _⟩
    obtain ⟨r, ⟨K, E⟩, hr0⟩ := hr
    refine ⟨K + 1, ?_⟩
    have z0 : score_Weight.f (K + 1) w n l d t = some r := E (K + 1) (by omega)
    have hj : lecternlaw21_ScoreWeights.j0 (K + 1) w n l d t r true = some true := by
      simp only [lecternlaw21_ScoreWeights.j0]
      rw [if_pos trivial, decide_eq_true hr0]
    unfold lecternlaw21_ScoreWeights.f lecternlaw21_known.f
    simp only [Option.bind_some, if_true, z0]
    repeat' split
    all_goals (first | exact hj | skip)
    rw [decide_eq_true (by omega)]
    exact hj
#print axioms ScoreWeights
end Go.Proofs.YtgkeemjadjnhkaaGreatDoor.PureW
