/- Plain facts on numbers for the laws of the scores: words of 64 bits, sums, products. -/
import Derived.Test.YtgkeemjadjnhkaaGreatDoorScore0
import Derived.Test.YtgkeemjadjnhkaaGreatDoorScore1
import Derived.Test.YtgkeemjadjnhkaaGreatDoorScore2
import Derived.Test.YtgkeemjadjnhkaaGreatDoorScore3
import Derived.Test.YtgkeemjadjnhkaaGreatDoorScore4
import Derived.Test.YtgkeemjadjnhkaaGreatDoorScore5
import Derived.Test.YtgkeemjadjnhkaaGreatDoorScore6
import Derived.Test.YtgkeemjadjnhkaaGreatDoorScore7
import Derived.Test.YtgkeemjadjnhkaaGreatDoorScore8
namespace Go.Proofs.YtgkeemjadjnhkaaGreatDoor.Num
open Go.RowKit Go.Proofs.YtgkeemjadjnhkaaGreatDoor.PScore Go.Proofs.YtgkeemjadjnhkaaGreatDoorW.PrintWords Go.Proofs.YtgkeemjadjnhkaaGreatDoorW.PrintLast

set_option linter.unusedSimpArgs false
set_option linter.unusedVariables false
theorem u64w (n : Int) : IntKind.u64.wrap n = n % 18446744073709551616 := by
  simp [IntKind.wrap, IntKind.bits, IntKind.signed]
theorem u64s (n : Int) (h0 : 0 ≤ n) (h1 : n < 18446744073709551616) : IntKind.u64.wrap n = n := by
  rw [u64w]; omega
theorem w64s (n : Int) (h0 : -9223372036854775808 ≤ n) (h1 : n ≤ 9223372036854775807) : wrap64 n = n := by
  unfold wrap64; omega
theorem wf64 (a : Int) (h : (Lit.int .i64 a).wf = true) : -9223372036854775808 ≤ a ∧ a ≤ 9223372036854775807 := by
  simp [Lit.wf, IntKind.min, IntKind.max, IntKind.signed, IntKind.bits] at h
  omega

/-- A number held within a word of 64 bits with a sign. -/
def held (n : Int) : Int := if n < -9223372036854775808 then -9223372036854775808 else if 9223372036854775807 < n then 9223372036854775807 else n

theorem sum_own (a b : Int) (ha : -9223372036854775808 ≤ a ∧ a ≤ 9223372036854775807) (hb : -9223372036854775808 ≤ b ∧ b ≤ 9223372036854775807) (k : Nat) :
    score_Sum.f (k + 1) a b = some (held (a + b)) := by
  simp only [score_Sum.f, score_Sum.j0]
  unfold held wrap64
  repeat' split
  all_goals (try simp only [decide_eq_true_eq, Bool.false_eq_true] at *)
  all_goals (first | contradiction | (apply congrArg some; omega) | (exfalso; omega))

theorem size_abs (a : Int) (ha : -9223372036854775808 ≤ a ∧ a ≤ 9223372036854775807) :
    score_size.f a = some (a.natAbs : Int) := by
  unfold score_size.f
  split
  · apply congrArg some; rw [u64w, u64w]; omega
  · apply congrArg some; rw [u64w]; omega

theorem abs_mul (a b : Int) : ((a.natAbs : Int) * (b.natAbs : Int)) = if a < 0 ∧ 0 < b ∨ 0 < a ∧ b < 0 then -(a * b) else a * b := by
  rcases Int.natAbs_eq a with h | h <;> rcases Int.natAbs_eq b with h' | h'
  · split
    · rename_i c
      have : a = 0 ∨ b = 0 := by omega
      rcases this with e | e <;> simp [e]
    · rw [← h, ← h']
  · split
    · rw [← h, show (b.natAbs : Int) = -b from by omega, Int.mul_neg]
    · rename_i c
      have : a = 0 ∨ b = 0 := by omega
      rcases this with e | e <;> simp [e]
  · split
    · rw [← h', show (a.natAbs : Int) = -a from by omega, Int.neg_mul]
    · rename_i c
      have : a = 0 ∨ b = 0 := by omega
      rcases this with e | e <;> simp [e]
  · split
    · rename_i c
      have : a = 0 ∨ b = 0 := by omega
      rcases this with e | e <;> simp [e]
    · rw [show (b.natAbs : Int) = -b from by omega, show (a.natAbs : Int) = -a from by omega, Int.neg_mul_neg]

theorem abs_lt (a : Int) (ha : -9223372036854775808 ≤ a ∧ a ≤ 9223372036854775807) : 0 ≤ (a.natAbs : Int) ∧ (a.natAbs : Int) ≤ 9223372036854775808 := by omega

theorem mul64_of (x y : Int) (h1 : 0 ≤ x) (h2 : x < 18446744073709551616) (h3 : 0 ≤ y) (h4 : y < 18446744073709551616) :
    bits_Mul64.f x y = some (x * y / 18446744073709551616, x * y % 18446744073709551616) := by
  unfold bits_Mul64.f
  rw [if_pos h1, if_pos h2, if_pos h3, if_pos h4]

/-- What Times does behind the product of the sizes. -/
def after (k : Nat) (below : Bool) (P : Int) : Option Int :=
  if below = true then (if P / 18446744073709551616 > 0 then score_Times.j0 k (P % 18446744073709551616) true else score_Times.j0 k (P % 18446744073709551616) (decide (P % 18446744073709551616 > 9223372036854775808)))
  else (if P / 18446744073709551616 > 0 then some 9223372036854775807 else if P % 18446744073709551616 > 9223372036854775807 then some 9223372036854775807 else some (wrap64 (P % 18446744073709551616)))

theorem j0_yes (k : Nat) (x : Int) : score_Times.j0 (k + 1) x true = some (-9223372036854775808) := by
  simp only [score_Times.j0, if_true]
theorem j0_no (k : Nat) (x : Int) : score_Times.j0 (k + 1) x false = some (wrap64 (IntKind.u64.wrap (-x))) := by
  simp only [score_Times.j0]; rw [if_neg (by decide)]

theorem after_below (k : Nat) (P : Int) (h : 0 ≤ P) : after (k + 1) true P = some (held (-P)) := by
  unfold after
  rw [if_pos rfl]
  by_cases c : P / 18446744073709551616 > 0
  · rw [if_pos c, j0_yes]; apply congrArg some; unfold held; rw [if_pos (by omega)]
  · rw [if_neg c]
    by_cases d : P % 18446744073709551616 > 9223372036854775808
    · rw [decide_eq_true d, j0_yes]; apply congrArg some; unfold held; rw [if_pos (by omega)]
    · rw [decide_eq_false d, j0_no, u64w]; apply congrArg some; unfold held wrap64; rw [if_neg (by omega), if_neg (by omega)]; omega

theorem after_above (k : Nat) (P : Int) (h : 0 ≤ P) : after (k + 1) false P = some (held P) := by
  unfold after
  rw [if_neg (by decide)]
  by_cases c : P / 18446744073709551616 > 0
  · rw [if_pos c]; apply congrArg some; unfold held; rw [if_neg (by omega), if_pos (by omega)]
  · rw [if_neg c]
    by_cases d : P % 18446744073709551616 > 9223372036854775807
    · rw [if_pos d]; apply congrArg some; unfold held; rw [if_neg (by omega), if_pos (by omega)]
    · rw [if_neg d]; apply congrArg some; unfold held wrap64; rw [if_neg (by omega), if_neg (by omega)]; omega

theorem times_after (a b : Int) (ha : -9223372036854775808 ≤ a ∧ a ≤ 9223372036854775807) (hb : -9223372036854775808 ≤ b ∧ b ≤ 9223372036854775807) (k : Nat) :
    score_Times.f k a b = after k ((decide (a < 0)) != (decide (b < 0))) ((a.natAbs : Int) * (b.natAbs : Int)) := by
  have h1 := abs_lt a ha
  have h2 := abs_lt b hb
  have hm := mul64_of a.natAbs b.natAbs h1.1 (by omega) h2.1 (by omega)
  unfold score_Times.f after
  rw [size_abs a ha, size_abs b hb, Option.bind_some, Option.bind_some, hm, Option.bind_some]
theorem times_own (a b : Int) (ha : -9223372036854775808 ≤ a ∧ a ≤ 9223372036854775807) (hb : -9223372036854775808 ≤ b ∧ b ≤ 9223372036854775807) (k : Nat) :
    score_Times.f (k + 1) a b = some (held (a * b)) := by
  rw [times_after a b ha hb]
  have h1 := abs_lt a ha
  have h2 := abs_lt b hb
  have hp : 0 ≤ (a.natAbs : Int) * (b.natAbs : Int) := Int.mul_nonneg h1.1 h2.1
  have hs := abs_mul a b
  have hz1 : a = 0 → a * b = 0 := fun e => by rw [e, Int.zero_mul]
  have hz2 : b = 0 → a * b = 0 := fun e => by rw [e, Int.mul_zero]
  generalize (a.natAbs : Int) * (b.natAbs : Int) = P at *
  generalize a * b = m at *
  by_cases n1 : a < 0 <;> by_cases n2 : b < 0
  · rw [show ((decide (a < 0)) != (decide (b < 0))) = false from by simp [n1, n2], after_above _ _ hp]
    rw [if_neg (by omega)] at hs; rw [hs]
  · rw [show ((decide (a < 0)) != (decide (b < 0))) = true from by simp [n1, n2], after_below _ _ hp]
    by_cases e : b = 0
    · rw [if_neg (by omega)] at hs; have := hz2 e; rw [hs, this, Int.neg_zero]
    · rw [if_pos (by omega)] at hs; rw [hs, Int.neg_neg]
  · rw [show ((decide (a < 0)) != (decide (b < 0))) = true from by simp [n1, n2], after_below _ _ hp]
    by_cases e : a = 0
    · rw [if_neg (by omega)] at hs; have := hz1 e; rw [hs, this, Int.neg_zero]
    · rw [if_pos (by omega)] at hs; rw [hs, Int.neg_neg]
  · rw [show ((decide (a < 0)) != (decide (b < 0))) = false from by simp [n1, n2], after_above _ _ hp]
    rw [if_neg (by omega)] at hs; rw [hs]

/-- Where the product lies in the word, the quotient is the first factor. -/
theorem back_in (a b : Int) (hb : b ≠ 0) (ha : -9223372036854775808 ≤ a ∧ a ≤ 9223372036854775807) (h : -9223372036854775808 ≤ a * b ∧ a * b ≤ 9223372036854775807) :
    wrap64 (Int.tdiv (wrap64 (a * b)) b) = a := by
  rw [w64s _ h.1 h.2, Int.mul_tdiv_cancel _ hb, w64s _ ha.1 ha.2]

theorem wrap_range (n : Int) : -9223372036854775808 ≤ wrap64 n ∧ wrap64 n ≤ 9223372036854775807 := by unfold wrap64; omega

/-- The quotient times the divisor stays on the side of the number that is divided. -/
theorem tdiv_mul_side (c b : Int) : (0 ≤ c → 0 ≤ Int.tdiv c b * b ∧ Int.tdiv c b * b ≤ c) ∧ (c ≤ 0 → c ≤ Int.tdiv c b * b ∧ Int.tdiv c b * b ≤ 0) := by
  have h := Int.tmod_add_tdiv_mul c b
  have h1 : 0 ≤ c → 0 ≤ Int.tmod c b := fun h => Int.tmod_nonneg _ h
  have h2 : c ≤ 0 → Int.tmod c b ≤ 0 := fun h => by
    have := Int.tmod_nonneg b (a := -c) (by omega)
    rw [Int.neg_tmod] at this; omega
  have h3 : (Int.tmod c b).natAbs ≤ c.natAbs := by rw [Int.natAbs_tmod]; exact Nat.mod_le _ _
  constructor
  · intro hc; have := h1 hc; omega
  · intro hc; have := h2 hc; omega

/-- Where the product lies beside the word, no quotient tells the first factor, but at the two lowest numbers. -/
theorem back_out (a b : Int) (ha : -9223372036854775808 ≤ a ∧ a ≤ 9223372036854775807)
    (h : a * b < -9223372036854775808 ∨ 9223372036854775807 < a * b) (e : wrap64 (Int.tdiv (wrap64 (a * b)) b) = a) : b = -1 ∧ a = -9223372036854775808 := by
  have hw := wrap_range (a * b)
  have hm : wrap64 (a * b) = (a * b + 9223372036854775808) % 18446744073709551616 - 9223372036854775808 := by unfold wrap64; exact Eq.refl _
  generalize wrap64 (a * b) = c at *
  have hs := tdiv_mul_side c b
  by_cases q : -9223372036854775808 ≤ Int.tdiv c b ∧ Int.tdiv c b ≤ 9223372036854775807
  · rw [w64s _ q.1 q.2] at e
    rw [e] at hs
    exfalso
    rcases Int.le_total 0 c with hc | hc
    · have := hs.1 hc; omega
    · have := hs.2 hc; omega
  · have hq : (Int.tdiv c b).natAbs ≤ c.natAbs := by rw [Int.natAbs_tdiv]; exact Nat.div_le_self _ _
    have hc : c = -9223372036854775808 := by omega
    have hq2 : Int.tdiv c b = 9223372036854775808 := by omega
    have hb0 : b ≠ 0 := by intro e0; rw [e0, Int.tdiv_zero] at hq2; omega
    rw [hq2] at e hs
    have hs2 := hs.2 (by omega)
    have ea : a = -9223372036854775808 := by rw [← e]; unfold wrap64; omega
    omega


theorem sign_out (a b : Int) (h : a * b < -9223372036854775808 ∨ 9223372036854775807 < a * b) :
    (if ((decide (a < 0)) == (decide (b < 0))) = true then some (9223372036854775807 : Int) else some (-9223372036854775808)) = some (held (a * b)) := by
  have hs := abs_mul a b
  have hp : 0 ≤ (a.natAbs : Int) * (b.natAbs : Int) := Int.mul_nonneg (by omega) (by omega)
  have hz1 : a = 0 → a * b = 0 := fun e => by rw [e, Int.zero_mul]
  have hz2 : b = 0 → a * b = 0 := fun e => by rw [e, Int.mul_zero]
  have n1 : a ≠ 0 := fun e => by have := hz1 e; omega
  have n2 : b ≠ 0 := fun e => by have := hz2 e; omega
  clear hz1 hz2
  generalize (a.natAbs : Int) * (b.natAbs : Int) = P at *
  generalize a * b = m at *
  unfold held
  by_cases q1 : a < 0 <;> by_cases q2 : b < 0
  · rw [if_neg (by omega)] at hs
    rw [if_pos (by simp [q1, q2]), if_neg (by omega), if_pos (by omega)]
  · rw [if_pos (by omega)] at hs
    rw [if_neg (by simp [q1, q2]), if_pos (by omega)]
  · rw [if_pos (by omega)] at hs
    rw [if_neg (by simp [q1, q2]), if_pos (by omega)]
  · rw [if_neg (by omega)] at hs
    rw [if_pos (by simp [q1, q2]), if_neg (by omega), if_pos (by omega)]

theorem held_in (n : Int) (h : -9223372036854775808 ≤ n ∧ n ≤ 9223372036854775807) : held n = n := by
  unfold held; rw [if_neg (by omega), if_neg (by omega)]

end Go.Proofs.YtgkeemjadjnhkaaGreatDoor.Num
