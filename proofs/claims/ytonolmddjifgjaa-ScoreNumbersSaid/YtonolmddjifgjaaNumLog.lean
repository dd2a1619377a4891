/- The two logarithms of the law ScoreNumbers are one. -/
import Derived.Test.YtonolmddjifgjaaNum
import Derived.Test.YtonolmddjifgjaaScore2
namespace Go.Proofs.Ytonolmddjifgjaa.Num
open Go.RowKit Go.Proofs.Ytonolmddjifgjaa.PScore Go.Proofs.YtonolmddjifgjaaW.PrintWords Go.Proofs.YtonolmddjifgjaaW.PrintLast
set_option linter.unusedSimpArgs false
set_option linter.unusedVariables false

theorem tdiv31 (y : Int) : IntKind.u64.wrap (Int.tdiv (IntKind.u64.wrap y) 2147483648) = IntKind.u64.wrap y / 2147483648 := by
  rw [u64w y, Int.tdiv_eq_ediv_of_nonneg (by omega), u64w]; omega

theorem log_l1 (k : Nat) : ∀ (i : Nat) (y out K bits : Int), i ≤ 16 → out = wrap64 (K * 2 ^ i + bits) →
    score_Log.l1 k out y (i : Int) = lecternref21_Log.l1 k K y bits (i : Int) := by
  induction k with
  | zero => intro i y out K bits _ _; simp only [score_Log.l1, lecternref21_Log.l1]
  | succ k ih =>
    intro i y out K bits hi ho
    simp only [score_Log.l1, lecternref21_Log.l1, tdiv31]
    by_cases c : (i : Int) < 16
    · rw [if_pos c, if_pos c]
      have hw : wrap64 ((i : Int) + 1) = ((i + 1 : Nat) : Int) := by unfold wrap64; omega
      rw [hw]
      have hm : K * 2 ^ (i + 1) = K * 2 ^ i * 2 := by rw [Int.pow_succ, Int.mul_assoc]
      have e1 := ih (i + 1) (IntKind.u64.wrap (Int.tdiv (IntKind.u64.wrap (y * y) / 2147483648) 2)) (wrap64 (wrap64 (out * 2) + 1)) K (wrap64 (wrap64 (bits * 2) + 1)) (by omega) (by
        rw [hm, ho]; generalize K * 2 ^ i = m; unfold wrap64; omega)
      have e2 := ih (i + 1) (IntKind.u64.wrap (y * y) / 2147483648) (wrap64 (out * 2)) K (wrap64 (bits * 2)) (by omega) (by
        rw [hm, ho]; generalize K * 2 ^ i = m; unfold wrap64; omega)
      rw [e1, e2]
    · rw [if_neg c, if_neg c]
      have : i = 16 := by omega
      subst this
      apply congrArg some
      rw [ho, show (K * 2 ^ 16 : Int) = K * 65536 from by rfl]
      generalize K * 65536 = m
      unfold wrap64; omega

theorem log_l0 (k : Nat) : ∀ (a b out : Int), -9223372036854775808 ≤ out ∧ out ≤ 9223372036854775807 → score_Log.l0 k a b out = lecternref21_Log.l0 k a b out := by
  induction k with
  | zero => intro a b out _; simp only [score_Log.l0, lecternref21_Log.l0]
  | succ k ih =>
    intro a b out ho
    simp only [score_Log.l0, lecternref21_Log.l0, ge_iff_le]
    rw [Int.mul_comm 2 b]
    rw [ih a (wrap64 (b * 2)) (wrap64 (out + 1)) (wrap_range _)]
    have e := log_l1 k 0 (IntKind.u64.wrap (Int.tdiv (IntKind.u64.wrap (IntKind.u64.wrap a * 2147483648)) (IntKind.u64.wrap b))) out out 0 (by omega) (by
      rw [Int.pow_zero, Int.mul_one, Int.add_zero, w64s _ ho.1 ho.2])
    rw [show ((0 : Nat) : Int) = 0 from rfl] at e
    rw [e]

theorem log_eq (k : Nat) (a b : Int) : score_Log.f k a b = lecternref21_Log.f k a b := by
  cases k with
  | zero => simp only [score_Log.f, lecternref21_Log.f, score_Log.j0, lecternref21_Log.j0]
  | succ k =>
    simp only [score_Log.f, lecternref21_Log.f, score_Log.j0, lecternref21_Log.j0]
    rw [log_l0 k a b 0 (by omega)]

theorem log_l1_some (n : Nat) : ∀ (k i : Nat) (y out : Int), i + n = 16 → n + 1 ≤ k → ∃ r, score_Log.l1 k out y (i : Int) = some r := by
  induction n with
  | zero =>
    intro k i y out hi hk
    obtain ⟨k, rfl⟩ : ∃ m, k = m + 1 := ⟨k - 1, by omega⟩
    simp only [score_Log.l1]
    rw [if_neg (by omega)]; exact ⟨_, rfl⟩
  | succ n ih =>
    intro k i y out hi hk
    obtain ⟨k, rfl⟩ : ∃ m, k = m + 1 := ⟨k - 1, by omega⟩
    simp only [score_Log.l1]
    rw [if_pos (by omega)]
    have hw : wrap64 ((i : Int) + 1) = ((i + 1 : Nat) : Int) := by unfold wrap64; omega
    rw [hw]
    split
    · exact ih k (i + 1) _ _ (by omega) (by omega)
    · exact ih k (i + 1) _ _ (by omega) (by omega)

theorem log_l0_some (a : Int) (ha : a ≤ 2147483648) (n : Nat) : ∀ (k : Nat) (b out : Int), 1 ≤ b → b ≤ 2147483648 → a < b * 2 ^ n → n + 18 ≤ k → ∃ r, score_Log.l0 k a b out = some r := by
  induction n with
  | zero =>
    intro k b out h1 h2 h hk
    obtain ⟨k, rfl⟩ : ∃ m, k = m + 1 := ⟨k - 1, by omega⟩
    rw [Int.pow_zero, Int.mul_one] at h
    simp only [score_Log.l0]
    rw [if_neg (by unfold wrap64; omega), if_neg (by rw [u64w]; omega)]
    exact log_l1_some 16 k 0 _ _ (by omega) (by omega)
  | succ n ih =>
    intro k b out h1 h2 h hk
    obtain ⟨k, rfl⟩ : ∃ m, k = m + 1 := ⟨k - 1, by omega⟩
    simp only [score_Log.l0]
    by_cases c : a ≥ wrap64 (2 * b)
    · rw [if_pos c]
      have e : wrap64 (b * 2) = b * 2 := by unfold wrap64; omega
      rw [e]
      have c' : b * 2 ≤ a := by unfold wrap64 at c; omega
      refine ih k (b * 2) _ (by omega) (by omega) ?_ (by omega)
      rw [Int.mul_assoc, Int.mul_comm 2, ← Int.pow_succ]; exact h
    · rw [if_neg c, if_neg (by rw [u64w]; omega)]
      exact log_l1_some 16 k 0 _ _ (by omega) (by omega)

theorem log_some (k : Nat) (hk : 60 ≤ k) (a b : Int) : ∃ r, score_Log.f k a b = some r := by
  obtain ⟨k, rfl⟩ : ∃ m, k = m + 1 := ⟨k - 1, by omega⟩
  have hy : ∀ a b, score_Log.j0 (k + 1) a b true = some 0 := fun a b => by simp only [score_Log.j0, if_true]
  unfold score_Log.f
  by_cases c1 : b ≤ 0
  · rw [if_pos c1, hy]; exact ⟨_, rfl⟩
  rw [if_neg c1]
  by_cases c2 : a < b
  · rw [if_pos c2, hy]; exact ⟨_, rfl⟩
  rw [if_neg c2]
  by_cases c3 : a > 2147483648
  · rw [decide_eq_true c3, hy]; exact ⟨_, rfl⟩
  rw [decide_eq_false c3]
  simp only [score_Log.j0]
  rw [if_neg (by decide)]
  refine log_l0_some a (by omega) 32 k b 0 (by omega) (by omega) ?_ (by omega)
  rw [show (2 ^ 32 : Int) = 4294967296 from by rfl]; omega

end Go.Proofs.Ytonolmddjifgjaa.Num
