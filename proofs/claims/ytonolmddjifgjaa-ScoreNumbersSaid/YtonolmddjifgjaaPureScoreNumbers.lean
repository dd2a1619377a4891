/- Sums and products are held, logarithms and weights are what the document says, to the last bit: whatever numbers (no condition). This text: the plain law. -/
import Derived.Test.YtonolmddjifgjaaScore4
import Derived.Test.YtonolmddjifgjaaNumLog
import Derived.Test.YtonolmddjifgjaaNumDiv
namespace Go.Proofs.Ytonolmddjifgjaa.Pure
open Go.RowKit Go.Proofs.Ytonolmddjifgjaa.PScore Go.Proofs.YtonolmddjifgjaaW.PrintWords Go.Proofs.YtonolmddjifgjaaW.PrintLast Go.Proofs.Ytonolmddjifgjaa.Num
set_option linter.unusedSimpArgs false
set_option linter.unusedVariables false

/-- The share that a document's length has. -/
def lengthy (l d t : Int) : Int := 65536 * (3 * t + 9 * l * d) / (10 * t)
def below (n l d t : Int) : Int := 10 * (65536 * n + lengthy l d t)
def weighs (w n l d t : Int) : Int := wrap64 (22 * w * (65536 * n) / below n l d t)

theorem area (l d : Int) (h1 : 1 ≤ l) (h2 : l ≤ 1048576) (h3 : 1 ≤ d) (h4 : d ≤ 1048576) : 0 ≤ 9 * l * d ∧ 9 * l * d ≤ 9895604649984 := by
  constructor
  · exact Int.mul_nonneg (by omega) (by omega)
  · have : 9 * l * d ≤ 9437184 * 1048576 := Int.mul_le_mul (by omega) (by omega) (by omega) (by omega)
    omega

theorem lengthy_in (l d t : Int) (h1 : 1 ≤ l) (h2 : l ≤ 1048576) (h3 : 1 ≤ d) (h4 : d ≤ 1048576) (h5 : 1 ≤ t) (h6 : t ≤ 1099511627776) :
    0 ≤ lengthy l d t ∧ lengthy l d t ≤ 86469112845513523 := by
  have ha := area l d h1 h2 h3 h4
  unfold lengthy
  generalize 9 * l * d = m at *
  constructor
  · exact Int.ediv_nonneg (by omega) (by omega)
  · have e : 65536 * (3 * t + m) / (10 * t) ≤ 65536 * (3 * t + m) / 10 := by
      rw [← Int.ediv_ediv_of_nonneg (by omega)]
      exact Int.ediv_le_self _ (by omega)
    omega

theorem below_in (n l d t : Int) (h7 : 1 ≤ n) (h8 : n ≤ 1048576) (h1 : 1 ≤ l) (h2 : l ≤ 1048576) (h3 : 1 ≤ d) (h4 : d ≤ 1048576) (h5 : 1 ≤ t) (h6 : t ≤ 1099511627776) :
    65536 * n ≤ below n l d t ∧ below n l d t < 1152921504606846976 := by
  have := lengthy_in l d t h1 h2 h3 h4 h5 h6
  unfold below
  omega

theorem weight_own (w n l d t : Int) (w0 : 0 ≤ w) (w1 : w ≤ 1099511627776) (h7 : 1 ≤ n) (h8 : n ≤ 1048576) (h1 : 1 ≤ l) (h2 : l ≤ 1048576) (h3 : 1 ≤ d) (h4 : d ≤ 1048576) (h5 : 1 ≤ t) (h6 : t ≤ 1099511627776) :
    Ev (fun k => score_Weight.f k w n l d t) (weighs w n l d t) := by
  have ha := area l d h1 h2 h3 h4
  have hl := lengthy_in l d t h1 h2 h3 h4 h5 h6
  have hb := below_in n l d t h7 h8 h1 h2 h3 h4 h5 h6
  have hP : 22 * w * (65536 * n) ≤ 22 * w * below n l d t := Int.mul_le_mul_of_nonneg_left hb.1 (by omega)
  have hP0 : 0 ≤ 22 * w * (65536 * n) := Int.mul_nonneg (by omega) (by omega)
  have hP1 : 22 * w * below n l d t ≤ 24189255811072 * below n l d t := Int.mul_le_mul_of_nonneg_right (by omega) (by omega)
  have hi1 : 22 * w * (65536 * n) / 18446744073709551616 < below n l d t := Int.ediv_lt_of_lt_mul (by omega) (by omega)
  obtain ⟨r2, E⟩ := div64_is (22 * w * (65536 * n) / 18446744073709551616) (22 * w * (65536 * n) % 18446744073709551616) (below n l d t) (Int.ediv_nonneg hP0 (by omega)) hi1 (by omega) (by omega) (by omega)
  have hj : (22 * w * (65536 * n) / 18446744073709551616 * 18446744073709551616 + 22 * w * (65536 * n) % 18446744073709551616) = 22 * w * (65536 * n) := by omega
  rw [hj] at E
  have hm := mul64_of (22 * w) (65536 * n) (by omega) (by omega) (by omega) (by omega)
  have e1 : IntKind.u64.wrap (22 * IntKind.u64.wrap w) = 22 * w := by rw [u64s w (by omega) (by omega)]; exact u64s _ (by omega) (by omega)
  have e2 : IntKind.u64.wrap (65536 * IntKind.u64.wrap n) = 65536 * n := by rw [u64s n (by omega) (by omega)]; exact u64s _ (by omega) (by omega)
  have e3 : IntKind.u64.wrap (10 * IntKind.u64.wrap t) = 10 * t := by rw [u64s t (by omega) (by omega)]; exact u64s _ (by omega) (by omega)
  have e4 : IntKind.u64.wrap (IntKind.u64.wrap (9 * IntKind.u64.wrap l) * IntKind.u64.wrap d) = 9 * l * d := by
    rw [u64s l (by omega) (by omega), u64s d (by omega) (by omega), u64s (9 * l) (by omega) (by omega)]; exact u64s _ ha.1 (by omega)
  have e5 : IntKind.u64.wrap (IntKind.u64.wrap (3 * IntKind.u64.wrap t) + IntKind.u64.wrap (IntKind.u64.wrap (9 * IntKind.u64.wrap l) * IntKind.u64.wrap d)) = 3 * t + 9 * l * d := by
    rw [e4, u64s t (by omega) (by omega), u64s (3 * t) (by omega) (by omega)]; exact u64s _ (by omega) (by omega)
  have e6 : IntKind.u64.wrap (Int.tdiv (IntKind.u64.wrap (65536 * (3 * t + 9 * l * d))) (10 * t)) = lengthy l d t := by
    rw [u64s (65536 * (3 * t + 9 * l * d)) (by omega) (by omega), Int.tdiv_eq_ediv_of_nonneg (by omega)]
    exact u64s _ hl.1 (by have := hl.2; unfold lengthy at this; omega)
  have e7 : IntKind.u64.wrap (10 * IntKind.u64.wrap (65536 * n + lengthy l d t)) = below n l d t := by
    unfold below
    rw [u64s (65536 * n + lengthy l d t) (by omega) (by omega)]; exact u64s _ (by omega) (by omega)
  refine Ev.step (f := fun k => (bits_Div64.f k (22 * w * (65536 * n) / 18446744073709551616) (22 * w * (65536 * n) % 18446744073709551616) (below n l d t)).bind fun b => some (wrap64 b.1)) (fun k => ?_) (Ev.bind E (Ev.now _))
  unfold score_Weight.f
  rw [if_neg (by omega), if_neg (by omega), if_neg (by omega), if_neg (by omega), if_neg (by omega), if_neg (by omega), if_neg (by omega), if_neg (by omega), if_neg (by omega),
    decide_eq_false (show ¬ t > 1099511627776 by omega)]
  simp only [score_Weight.j0]
  rw [if_neg (by decide), e1, e2, e3, if_neg (by omega), hm, e5, e6, e7]
  simp only [Option.bind_some]

theorem weight_ref (w n l d t : Int) (w0 : 0 ≤ w) (w1 : w ≤ 1099511627776) (h7 : 1 ≤ n) (h8 : n ≤ 1048576) (h1 : 1 ≤ l) (h2 : l ≤ 1048576) (h3 : 1 ≤ d) (h4 : d ≤ 1048576) (h5 : 1 ≤ t) (h6 : t ≤ 1099511627776) :
    Ev (fun k => lecternref21_Weight.f k w n l d t) (weighs w n l d t) := by
  have ha := area l d h1 h2 h3 h4
  have hl := lengthy_in l d t h1 h2 h3 h4 h5 h6
  have hb := below_in n l d t h7 h8 h1 h2 h3 h4 h5 h6
  have E := quotient_is (22 * w) (65536 * n) (below n l d t) (by omega) (by omega) (by omega) hb.1 (by omega) hb.2
  have e1 : IntKind.u64.wrap (wrap64 (22 * w)) = 22 * w := by rw [w64s _ (by omega) (by omega)]; exact u64s _ (by omega) (by omega)
  have e2 : wrap64 (65536 * n) = 65536 * n := w64s _ (by omega) (by omega)
  have e2' : IntKind.u64.wrap (65536 * n) = 65536 * n := u64s _ (by omega) (by omega)
  have e3 : wrap64 (10 * t) = 10 * t := w64s _ (by omega) (by omega)
  have e4 : wrap64 (wrap64 (9 * l) * d) = 9 * l * d := by
    rw [w64s (9 * l) (by omega) (by omega)]; exact w64s _ (by omega) (by omega)
  have e5 : wrap64 (wrap64 (3 * t) + 9 * l * d) = 3 * t + 9 * l * d := by
    rw [w64s (3 * t) (by omega) (by omega)]; exact w64s _ (by omega) (by omega)
  have e6 : wrap64 (Int.tdiv (wrap64 (65536 * (3 * t + 9 * l * d))) (10 * t)) = lengthy l d t := by
    rw [w64s (65536 * (3 * t + 9 * l * d)) (by omega) (by omega), Int.tdiv_eq_ediv_of_nonneg (by omega)]
    exact w64s _ (by have := hl.1; unfold lengthy at this; omega) (by have := hl.2; unfold lengthy at this; omega)
  have e7 : IntKind.u64.wrap (wrap64 (10 * wrap64 (65536 * n + lengthy l d t))) = below n l d t := by
    unfold below
    rw [w64s (65536 * n + lengthy l d t) (by omega) (by omega), w64s _ (by omega) (by omega)]; exact u64s _ (by omega) (by omega)
  refine Ev.congr (f := fun k => (lecternref21_quotient.f k (22 * w) (65536 * n) (below n l d t)).bind fun b => some (wrap64 b)) (fun k => ?_) (Ev.bind E (Ev.now _))
  unfold lecternref21_Weight.f
  rw [if_neg (by omega), if_neg (by omega), if_neg (by omega), if_neg (by omega), if_neg (by omega), if_neg (by omega), if_neg (by omega), if_neg (by omega), if_neg (by omega), if_neg (by omega),
    e3, if_neg (by omega), e1, e2, e2', e4, e5, e6, e7]

theorem weight_both (w n l d t : Int) : ∃ r, Ev (fun k => score_Weight.f k w n l d t) r ∧ Ev (fun k => lecternref21_Weight.f k w n l d t) r := by
  by_cases h : 0 ≤ w ∧ w ≤ 1099511627776 ∧ 1 ≤ n ∧ n ≤ 1048576 ∧ 1 ≤ l ∧ l ≤ 1048576 ∧ 1 ≤ d ∧ d ≤ 1048576 ∧ 1 ≤ t ∧ t ≤ 1099511627776
  · obtain ⟨a0, a1, a2, a3, a4, a5, a6, a7, a8, a9⟩ := h
    exact ⟨_, weight_own w n l d t a0 a1 a2 a3 a4 a5 a6 a7 a8 a9, weight_ref w n l d t a0 a1 a2 a3 a4 a5 a6 a7 a8 a9⟩
  · refine ⟨0, ⟨1, fun k hk => ?_⟩, ⟨0, fun k _ => ?_⟩⟩
    · obtain ⟨k, rfl⟩ : ∃ m, k = m + 1 := ⟨k - 1, by omega⟩
      have hy : score_Weight.j0 (k + 1) w n l d t true = some 0 := by simp only [score_Weight.j0, if_true]
      show score_Weight.f (k + 1) w n l d t = some 0
      unfold score_Weight.f
      rw [hy]
      repeat' split
      all_goals (first | rfl | skip)
      rw [decide_eq_true (by omega), hy]
    · show lecternref21_Weight.f k w n l d t = some 0
      unfold lecternref21_Weight.f
      by_cases c1 : w < 0
      · rw [if_pos c1]
      rw [if_neg c1]
      by_cases c2 : w > 1099511627776
      · rw [if_pos c2]
      rw [if_neg c2]
      by_cases c3 : n < 1
      · rw [if_pos c3]
      rw [if_neg c3]
      by_cases c4 : n > 1048576
      · rw [if_pos c4]
      rw [if_neg c4]
      by_cases c5 : l < 1
      · rw [if_pos c5]
      rw [if_neg c5]
      by_cases c6 : l > 1048576
      · rw [if_pos c6]
      rw [if_neg c6]
      by_cases c7 : d < 1
      · rw [if_pos c7]
      rw [if_neg c7]
      by_cases c8 : d > 1048576
      · rw [if_pos c8]
      rw [if_neg c8]
      by_cases c9 : t < 1
      · rw [if_pos c9]
      rw [if_neg c9, if_pos (by omega)]

theorem ScoreNumbers : lecternlaw21_ScoreNumbers.Pure := by
  intro a b n l d ha hb hn hl hd
  have ha := wf64 a ha
  have hb := wf64 b hb
  obtain ⟨r, ⟨K1, E1⟩, ⟨K2, E2⟩⟩ := weight_both a n l d b
  refine ⟨max (max K1 K2) 60, ?_⟩
  generalize hk : max (max K1 K2) 60 = k
  obtain ⟨m, rfl⟩ : ∃ m, k = m + 2 := ⟨k - 2, by omega⟩
  obtain ⟨g, hg⟩ := log_some (m + 2) (by omega) a b
  have hg' := hg
  rw [log_eq] at hg'
  have w1 := E1 (m + 2) (by omega)
  have w2 := E2 (m + 2) (by omega)
  simp only at w1 w2
  unfold lecternlaw21_ScoreNumbers.f
  rw [sum_own a b ha hb, sum_ref a b ha hb, times_own a b ha hb, times_ref a b ha hb, hg, hg', w1, w2]
  simp

end Go.Proofs.Ytonolmddjifgjaa.Pure
