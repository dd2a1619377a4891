/- The document's quotient, bit by bit, is the quotient. -/
import Derived.Test.YtonolmddjifgjaaNum
import Derived.Test.YtonolmddjifgjaaScore4
namespace Go.Proofs.Ytonolmddjifgjaa.Num
open Go.RowKit Go.Proofs.Ytonolmddjifgjaa.PScore Go.Proofs.YtonolmddjifgjaaW.PrintWords Go.Proofs.YtonolmddjifgjaaW.PrintLast Go.Proofs.YtonolmddjifgjaaW.PrintMore
set_option linter.unusedSimpArgs false
set_option linter.unusedVariables false

theorem u64fits : ∀ n : Int, 0 ≤ n → n < 2 ^ 64 → IntKind.u64.wrap n = n := fun n h0 h1 => u64s n h0 (by
  rw [show (2 ^ 64 : Int) = 18446744073709551616 from by rfl] at h1; exact h1)
theorem and_one (x : Int) (h0 : 0 ≤ x) (h1 : x < 18446744073709551616) : Go.bits .and .u64 x 1 = x % 2 := by
  have := bits_mask .u64 64 (by decide) u64fits 1 (by decide) x h0 (by rw [show (2 ^ 64 : Int) = 18446744073709551616 from by rfl]; exact h1)
  rw [show ((2 : Int) ^ 1 - 1) = 1 from by rfl, show ((2 : Int) ^ 1) = 2 from by rfl] at this
  exact this
theorem shr_at (x : Int) (n : Nat) (h : n ≤ 64) : shr .u64 x (n : Int) = x / 2 ^ n := by
  unfold shr
  rw [Int.toNat_natCast, show IntKind.u64.bits = 64 from rfl, Nat.min_eq_left h]

theorem quo_l1 (a b d i N res : Int) (hd : 0 < d) (hd' : d < 1152921504606846976) (m : Nat) : ∀ (q r : Int), 0 ≤ q → q + m < 18446744073709551616 → 0 ≤ r → r < (m + 1) * d → r < 9223372036854775808 → q * d + r = N →
    (∀ q' r' : Int, 0 ≤ q' → 0 ≤ r' → r' < d → q' * d + r' = N → Ev (fun k => lecternref21_quotient.l0 k a b d q' r' (wrap64 (i - 1))) res) →
    Ev (fun k => lecternref21_quotient.l1 k a b d q r i) res := by
  induction m with
  | zero =>
    intro q r h1 h2 h3 h4 h5 h6 h
    refine Ev.step (f := fun k => lecternref21_quotient.l0 k a b d q r (wrap64 (i - 1))) (fun k => ?_) (h q r h1 h3 (by simpa using h4) h6)
    simp only [lecternref21_quotient.l1]
    rw [if_neg (by simp at h4; omega)]
  | succ m ih =>
    intro q r h1 h2 h3 h4 h5 h6 h
    by_cases c : r ≥ d
    · have hq : IntKind.u64.wrap (q + 1) = q + 1 := u64s _ (by omega) (by omega)
      have hr : IntKind.u64.wrap (r - d) = r - d := u64s _ (by omega) (by omega)
      refine Ev.step (f := fun k => lecternref21_quotient.l1 k a b d (q + 1) (r - d) i) (fun k => ?_) (ih (q + 1) (r - d) (by omega) (by omega) (by omega) ?_ (by omega) ?_ h)
      · simp only [lecternref21_quotient.l1]
        rw [if_pos c, hq, hr]
      · have : ((m + 1 : Nat) : Int) + 1 = ((m : Int) + 1) + 1 := by omega
        rw [this, Int.add_mul, Int.one_mul] at h4
        omega
      · rw [Int.add_mul, Int.one_mul]; omega
    · refine Ev.step (f := fun k => lecternref21_quotient.l0 k a b d q r (wrap64 (i - 1))) (fun k => ?_) (h q r h1 h3 (by omega) h6)
      simp only [lecternref21_quotient.l1]
      rw [if_neg c]

theorem le_of_mul (q d r A b : Int) (hd : 0 < d) (hr : 0 ≤ r) (hA : 0 ≤ A) (hb : b ≤ d) (h : q * d + r = A * b) : q ≤ A := by
  have h1 : A * b ≤ A * d := Int.mul_le_mul_of_nonneg_left hb hA
  have h2 : q * d ≤ A * d := by omega
  exact Int.le_of_mul_le_mul_right h2 hd

theorem quo_of (q d r N : Int) (hr : 0 ≤ r) (hd : r < d) (h : q * d + r = N) : N / d = q := by
  have := (Int.ediv_emod_unique (a := N) (b := d) (r := r) (q := q) (by omega)).2 ⟨by rw [Int.mul_comm]; omega, hr, hd⟩
  exact this.1

theorem quo_l0 (a b d : Int) (ha0 : 0 ≤ a) (ha : a < 4611686018427387904) (hb0 : 0 ≤ b) (hb : b ≤ d) (hd : 0 < d) (hd' : d < 1152921504606846976) (n : Nat) :
    ∀ (q r : Int), n ≤ 64 → 0 ≤ q → 0 ≤ r → r < d → q * d + r = a / 2 ^ n * b → Ev (fun k => lecternref21_quotient.l0 k a b d q r ((n : Int) - 1)) (a * b / d) := by
  induction n with
  | zero =>
    intro q r hn h1 h2 h3 h4
    rw [Int.pow_zero, Int.ediv_one] at h4
    refine ⟨1, fun k hk => ?_⟩
    obtain ⟨k, rfl⟩ : ∃ m, k = m + 1 := ⟨k - 1, by omega⟩
    show lecternref21_quotient.l0 (k + 1) a b d q r (((0 : Nat) : Int) - 1) = _
    simp only [lecternref21_quotient.l0]
    rw [if_neg (by omega), quo_of q d r (a * b) h2 h3 h4]
  | succ n ih =>
    intro q r hn h1 h2 h3 h4
    have hp : (0 : Int) < 2 ^ n := Int.pow_pos (by decide)
    have hA : 0 ≤ a / 2 ^ n := Int.ediv_nonneg ha0 (by omega)
    have hAa : a / 2 ^ n ≤ a := Int.ediv_le_self _ ha0
    have hhalf : a / 2 ^ (n + 1) = a / 2 ^ n / 2 := by rw [Int.pow_succ, Int.ediv_ediv_of_nonneg (by omega)]
    have hb2 : ((n + 1 : Nat) : Int) - 1 = (n : Int) := by omega
    rw [hb2]
    have hi : IntKind.u64.wrap (n : Int) = (n : Int) := u64s _ (by omega) (by omega)
    have hq : q ≤ a / 2 ^ (n + 1) := le_of_mul q d r _ b hd h2 (by rw [hhalf]; omega) hb h4
    have hq2 : IntKind.u64.wrap (q * 2) = q * 2 := u64s _ (by omega) (by omega)
    have hr2 : IntKind.u64.wrap (r * 2) = r * 2 := u64s _ (by omega) (by omega)
    have hr3 : IntKind.u64.wrap (IntKind.u64.wrap (r * 2) + b) = r * 2 + b := by rw [hr2]; exact u64s _ (by omega) (by omega)
    have hwi : wrap64 ((n : Int) - 1) = (n : Int) - 1 := w64s _ (by omega) (by omega)
    have next : ∀ r0 : Int, 0 ≤ r0 → r0 < 3 * d → q * 2 * d + r0 = a / 2 ^ n * b → Ev (fun k => lecternref21_quotient.j1 k a b d (q * 2) r0 (n : Int)) (a * b / d) := by
      intro r0 g1 g2 g3
      refine Ev.step (f := fun k => lecternref21_quotient.l1 k a b d (q * 2) r0 (n : Int)) (fun k => by simp only [lecternref21_quotient.j1]) ?_
      refine quo_l1 a b d (n : Int) (a / 2 ^ n * b) (a * b / d) hd hd' 2 (q * 2) r0 (by omega) (by omega) g1 (by
        rw [show (((2 : Nat) : Int) + 1) = 3 from rfl]; exact g2) (by omega) g3 ?_
      intro q' r' k1 k2 k3 k4
      rw [hwi]
      exact ih q' r' (by omega) k1 k2 k3 k4
    rw [hhalf] at h4
    have hsplit : a / 2 ^ n = a / 2 ^ n / 2 * 2 + a / 2 ^ n % 2 := by omega
    have hq2d : q * 2 * d = q * d * 2 := by rw [Int.mul_assoc, Int.mul_comm 2 d, Int.mul_assoc]
    by_cases c : a / 2 ^ n % 2 = 1
    · have e : a / 2 ^ n * b = a / 2 ^ n / 2 * b * 2 + b := by
        rw [hsplit, c]
        rw [show ((a / 2 ^ n / 2 * 2 + 1) / 2 : Int) = a / 2 ^ n / 2 from by omega, Int.add_mul, Int.one_mul, Int.mul_assoc, Int.mul_comm 2 b, Int.mul_assoc]
      refine Ev.step (f := fun k => lecternref21_quotient.j1 k a b d (q * 2) (r * 2 + b) (n : Int)) (fun k => ?_) (next (r * 2 + b) (by omega) (by omega) (by rw [e, hq2d]; omega))
      simp only [lecternref21_quotient.l0]
      rw [hi, if_pos (by omega), if_pos (by omega), shr_at a n (by omega), and_one _ hA (by omega), if_pos c, hq2, hr3]
    · have e : a / 2 ^ n * b = a / 2 ^ n / 2 * b * 2 := by
        have : a / 2 ^ n = a / 2 ^ n / 2 * 2 := by omega
        rw [Int.mul_assoc, Int.mul_comm b 2, ← Int.mul_assoc, ← this]
      refine Ev.step (f := fun k => lecternref21_quotient.j1 k a b d (q * 2) (r * 2) (n : Int)) (fun k => ?_) (next (r * 2) (by omega) (by omega) (by rw [e, hq2d]; omega))
      simp only [lecternref21_quotient.l0]
      rw [hi, if_pos (by omega), if_pos (by omega), shr_at a n (by omega), and_one _ hA (by omega), if_neg c, hq2, hr2]

theorem quotient_is (a b d : Int) (ha0 : 0 ≤ a) (ha : a < 4611686018427387904) (hb0 : 0 ≤ b) (hb : b ≤ d) (hd : 0 < d) (hd' : d < 1152921504606846976) :
    Ev (fun k => lecternref21_quotient.f k a b d) (a * b / d) := by
  refine quo_l0 a b d ha0 ha hb0 hb hd hd' 64 0 0 (by omega) (by omega) (by omega) hd ?_
  have : a / 2 ^ 64 = 0 := Int.ediv_eq_zero_of_lt ha0 (by rw [show (2 ^ 64 : Int) = 18446744073709551616 from by rfl]; omega)
  rw [this, Int.zero_mul, Int.zero_mul, Int.add_zero]

end Go.Proofs.Ytonolmddjifgjaa.Num
