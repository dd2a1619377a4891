/- The library's division of two words by one is the quotient. -/
import Derived.Test.YtgkeemjadjnhkaaGreatDoorNum
namespace Go.Proofs.YtgkeemjadjnhkaaGreatDoor.Num
open Go.RowKit Go.Proofs.YtgkeemjadjnhkaaGreatDoor.PScore Go.Proofs.YtgkeemjadjnhkaaGreatDoorW.PrintWords Go.Proofs.YtgkeemjadjnhkaaGreatDoorW.PrintLast Go.Proofs.YtgkeemjadjnhkaaGreatDoorW.PrintMore
set_option linter.unusedSimpArgs false
set_option linter.unusedVariables false

theorem u64fits : ∀ n : Int, 0 ≤ n → n < 2 ^ 64 → IntKind.u64.wrap n = n := fun n h0 h1 => u64s n h0 (by
  rw [show (2 ^ 64 : Int) = 18446744073709551616 from by rfl] at h1; exact h1)
theorem and_one (x : Int) (h0 : 0 ≤ x) (h1 : x < 18446744073709551616) : Go.bits .and .u64 x 1 = x % 2 := by
  have := bits_mask .u64 64 (by decide) u64fits 1 (by decide) x h0 (by rw [show (2 ^ 64 : Int) = 18446744073709551616 from by rfl]; exact h1)
  rw [show ((2 : Int) ^ 1 - 1) = 1 from by rfl, show ((2 : Int) ^ 1) = 2 from by rfl] at this
  exact this
theorem shr_at (x : Int) (n : Nat) (h : n ≤ 64) : shr .u64 x (n : Int) = x / 2 ^ n := by
  unfold shr
  rw [Int.toNat_natCast, show IntKind.u64.bits = 64 from rfl, Nat.min_eq_left h]
theorem le_of_mul (q d r A b : Int) (hd : 0 < d) (hr : 0 ≤ r) (hA : 0 ≤ A) (hb : b ≤ d) (h : q * d + r = A * b) : q ≤ A := by
  have h1 : A * b ≤ A * d := Int.mul_le_mul_of_nonneg_left hb hA
  have h2 : q * d ≤ A * d := by omega
  exact Int.le_of_mul_le_mul_right h2 hd
theorem quo_of (q d r N : Int) (hr : 0 ≤ r) (hd : r < d) (h : q * d + r = N) : N / d = q := by
  have := (Int.ediv_emod_unique (a := N) (b := d) (r := r) (q := q) (by omega)).2 ⟨by rw [Int.mul_comm]; omega, hr, hd⟩
  exact this.1
theorem bitLen_ends : ∀ (n x : Nat), n ≤ 64 → x < 2 ^ n → x ≠ 0 → 2 ^ Lib.bitLen x ≤ 2 * x ∧ x < 2 ^ Lib.bitLen x := by
  intro n
  induction n with
  | zero => intro x _ h hx; simp at h; omega
  | succ n ih =>
    intro x hn h hx
    have h64 : x < 2 ^ 64 := Nat.lt_of_lt_of_le h (Nat.pow_le_pow_right (by decide) hn)
    rw [Lib.bitLen_half x hx h64, Nat.pow_add, Nat.pow_one]
    by_cases c : x / 2 = 0
    · have : x = 1 := by omega
      subst this
      decide
    · have := ih (x / 2) (by omega) (by rw [Nat.pow_succ] at h; omega) c
      omega

/-- A step of the division of a digit: what is known of the guess. -/
structure Digit (y1 y0 u c q h : Int) : Prop where
  q0 : 0 ≤ q
  h0 : 0 ≤ h
  h1 : h < 4294967296
  guess : q * y1 + h = u
  above : u * 4294967296 + c < (q + 1) * (y1 * 4294967296 + y0)

structure Sized (y1 y0 u c : Int) : Prop where
  lo : 2147483648 ≤ y1
  hi : y1 < 4294967296
  z0 : 0 ≤ y0
  z1 : y0 < 4294967296
  u0 : 0 ≤ u
  u1 : u < y1 * 4294967296 + y0
  c0 : 0 ≤ c
  c1 : c < 4294967296

variable {y1 y0 u c q h : Int}

theorem Digit.split (D : Digit y1 y0 u c q h) : q * (y1 * 4294967296 + y0) = q * y1 * 4294967296 + q * y0 := by
  rw [Int.mul_add, Int.mul_assoc]

/-- The test of the guess, in true numbers. -/
theorem Digit.test (S : Sized y1 y0 u c) (D : Digit y1 y0 u c q h) : q * y0 > 4294967296 * h + c ↔ u * 4294967296 + c < q * (y1 * 4294967296 + y0) := by
  rw [D.split, ← D.guess]; omega

theorem Digit.great (S : Sized y1 y0 u c) (D : Digit y1 y0 u c q h) (g : 4294967296 ≤ q) : u * 4294967296 + c < q * (y1 * 4294967296 + y0) := by
  have h1 : 4294967296 * (y1 * 4294967296 + y0) ≤ q * (y1 * 4294967296 + y0) := Int.mul_le_mul_of_nonneg_right g (by have := S.lo; have := S.z0; omega)
  have := S.u1; have := S.c1
  omega

theorem small_mul (a b : Int) (h0 : 0 ≤ a) (h1 : a < 4294967296) (h2 : 0 ≤ b) (h3 : b < 4294967296) : 0 ≤ a * b ∧ a * b ≤ 18446744065119617025 := by
  constructor
  · exact Int.mul_nonneg h0 h2
  · have : a * b ≤ 4294967295 * 4294967295 := Int.mul_le_mul (by omega) (by omega) h2 (by decide)
    omega

/-- The test as the words tell it. -/
theorem Digit.word (S : Sized y1 y0 u c) (D : Digit y1 y0 u c q h) (g : ¬ 4294967296 ≤ q) :
    (IntKind.u64.wrap (q * y0) > IntKind.u64.wrap (IntKind.u64.wrap (4294967296 * h) + c)) ↔ u * 4294967296 + c < q * (y1 * 4294967296 + y0) := by
  have hm := small_mul q y0 D.q0 (by omega) S.z0 S.z1
  have := D.h0; have := D.h1; have := S.c0; have := S.c1
  rw [u64s (q * y0) hm.1 (by omega), u64s (4294967296 * h) (by omega) (by omega), u64s (4294967296 * h + c) (by omega) (by omega)]
  exact D.test S

theorem Digit.less (S : Sized y1 y0 u c) (D : Digit y1 y0 u c q h) (t : u * 4294967296 + c < q * (y1 * 4294967296 + y0)) (l : h + y1 < 4294967296) : Digit y1 y0 u c (q - 1) (h + y1) := by
  have := S.u0; have := S.c0; have := S.lo; have := S.z0; have := D.q0; have := D.h0
  have hq : q ≠ 0 := fun e => by rw [e, Int.zero_mul] at t; omega
  refine ⟨by omega, by omega, l, ?_, by rw [Int.sub_add_cancel]; exact t⟩
  have hg := D.guess
  rw [Int.sub_mul, Int.one_mul]; omega

theorem Digit.pos (S : Sized y1 y0 u c) (D : Digit y1 y0 u c q h) (t : u * 4294967296 + c < q * (y1 * 4294967296 + y0)) : 1 ≤ q := by
  have := S.u0; have := S.c0; have := D.q0
  have hq : q ≠ 0 := fun e => by rw [e, Int.zero_mul] at t; omega
  omega

theorem Digit.stop (S : Sized y1 y0 u c) (D : Digit y1 y0 u c q h) (t : u * 4294967296 + c < q * (y1 * 4294967296 + y0)) (l : 4294967296 ≤ h + y1) :
    (u * 4294967296 + c) / (y1 * 4294967296 + y0) = q - 1 := by
  have hp := D.pos S t
  have s1 := S.lo; have s2 := S.hi; have s3 := S.z0; have s4 := S.z1; have s5 := S.u1; have s6 := S.c0; have s7 := S.c1
  have hg : (q - 1) * y1 + (h + y1) = u := by have hg := D.guess; rw [Int.sub_mul, Int.one_mul]; omega
  have hlt : (q - 1) * y1 < 4294967296 * y1 := by omega
  have hq : q - 1 < 4294967296 := Int.lt_of_mul_lt_mul_right hlt (by omega)
  have hm := small_mul (q - 1) y0 (by omega) hq s3 s4
  have hs : (q - 1) * (y1 * 4294967296 + y0) = (q - 1) * y1 * 4294967296 + (q - 1) * y0 := by rw [Int.mul_add, Int.mul_assoc]
  refine quo_of (q - 1) _ (u * 4294967296 + c - (q - 1) * (y1 * 4294967296 + y0)) _ ?_ ?_ (by omega)
  · rw [hs]; omega
  · have e : q * (y1 * 4294967296 + y0) = (q - 1) * (y1 * 4294967296 + y0) + (y1 * 4294967296 + y0) := by
      rw [Int.sub_mul, Int.one_mul, Int.sub_add_cancel]
    omega

theorem Digit.done (S : Sized y1 y0 u c) (D : Digit y1 y0 u c q h) (t : ¬ u * 4294967296 + c < q * (y1 * 4294967296 + y0)) :
    (u * 4294967296 + c) / (y1 * 4294967296 + y0) = q := by
  refine quo_of q _ (u * 4294967296 + c - q * (y1 * 4294967296 + y0)) _ (by omega) ?_ (by omega)
  have e : (q + 1) * (y1 * 4294967296 + y0) = q * (y1 * 4294967296 + y0) + (y1 * 4294967296 + y0) := by rw [Int.add_mul, Int.one_mul]
  have := D.above
  omega

theorem Digit.first (S : Sized y1 y0 u c) : Digit y1 y0 u c (u / y1) (u % y1) := by
  have s1 := S.lo; have s2 := S.hi; have s3 := S.z0; have s5 := S.u0; have s7 := S.c1
  have e := Int.mul_ediv_add_emod u y1
  have m0 := Int.emod_nonneg u (show y1 ≠ 0 by omega)
  have m1 := Int.emod_lt_of_pos u (show 0 < y1 by omega)
  refine ⟨Int.ediv_nonneg s5 (by omega), m0, by omega, by rw [Int.mul_comm]; exact e, ?_⟩
  rw [Int.mul_comm] at e
  have k1 : (u / y1 + 1) * (y1 * 4294967296 + y0) = (u / y1 * y1 + y1) * 4294967296 + (u / y1 + 1) * y0 := by
    rw [Int.mul_add, ← Int.mul_assoc, Int.add_mul (u / y1) 1 y1, Int.one_mul]
  have k2 : 0 ≤ (u / y1 + 1) * y0 := Int.mul_nonneg (by have := Int.ediv_nonneg s5 (show 0 ≤ y1 by omega); omega) s3
  rw [k1]
  omega

/-- The next digit lies in half a word. -/
theorem Sized.digit (S : Sized y1 y0 u c) : 0 ≤ (u * 4294967296 + c) / (y1 * 4294967296 + y0) ∧ (u * 4294967296 + c) / (y1 * 4294967296 + y0) < 4294967296 := by
  have s1 := S.lo; have s2 := S.hi; have s3 := S.z0; have s5 := S.u0; have s7 := S.c1; have := S.u1; have := S.c0
  refine ⟨Int.ediv_nonneg (by omega) (by omega), Int.ediv_lt_of_lt_mul (by omega) (by omega)⟩


section
variable {S8 un0 : Int} {res : Int × Int}
theorem div_l0 (S : Sized y1 y0 u c) (m : Nat) : ∀ (q h : Int), Digit y1 y0 u c q h → 4294967296 ≤ h + m * y1 →
    Ev (fun k => bits_Div64.j2 k (y1 * 4294967296 + y0) S8 y1 y0 u c un0 ((u * 4294967296 + c) / (y1 * 4294967296 + y0))) res →
    Ev (fun k => bits_Div64.l0 k (y1 * 4294967296 + y0) S8 y1 y0 u c un0 q h) res := by
  induction m with
  | zero => intro q h D g _; have := D.h1; simp at g; omega
  | succ m ih =>
    intro q h D g E
    have s1 := S.lo; have s2 := S.hi; have d1 := D.h0; have d2 := D.h1
    have hw : IntKind.u64.wrap (h + y1) = h + y1 := u64s _ (by omega) (by omega)
    have both : Ev (fun k => bits_Div64.j1 k (y1 * 4294967296 + y0) S8 y1 y0 u c un0 q h (decide (u * 4294967296 + c < q * (y1 * 4294967296 + y0)))) res := by
      by_cases t : u * 4294967296 + c < q * (y1 * 4294967296 + y0)
      · rw [decide_eq_true t]
        have hp := D.pos S t
        have hd : q * 4294967296 ≤ q * (y1 * 4294967296 + y0) := Int.mul_le_mul_of_nonneg_left (by have := S.z0; omega) (by omega)
        have hu : q * y1 ≤ u := by have := D.guess; omega
        have hqu : q ≤ q * y1 := by
          have : q * 1 ≤ q * y1 := Int.mul_le_mul_of_nonneg_left (by omega) (by omega)
          omega
        have hq1 : IntKind.u64.wrap (q - 1) = q - 1 := u64s _ (by omega) (by have := S.u1; have := S.z1; omega)
        by_cases l : h + y1 ≥ 4294967296
        · have e := D.stop S t l
          rw [e] at E
          refine Ev.step (f := fun k => bits_Div64.j2 k (y1 * 4294967296 + y0) S8 y1 y0 u c un0 (q - 1)) (fun k => ?_) E
          simp only [bits_Div64.j1]
          rw [if_pos trivial, hw, hq1, if_pos l]
        · refine Ev.step (f := fun k => bits_Div64.l0 k (y1 * 4294967296 + y0) S8 y1 y0 u c un0 (q - 1) (h + y1)) (fun k => ?_) (ih (q - 1) (h + y1) (D.less S t (by omega)) ?_ E)
          · simp only [bits_Div64.j1]
            rw [if_pos trivial, hw, hq1, if_neg l]
          · have : ((m + 1 : Nat) : Int) = (m : Int) + 1 := by omega
            rw [this, Int.add_mul, Int.one_mul] at g
            omega
      · rw [decide_eq_false t]
        rw [D.done S t] at E
        refine Ev.step (f := fun k => bits_Div64.j2 k (y1 * 4294967296 + y0) S8 y1 y0 u c un0 q) (fun k => ?_) E
        simp only [bits_Div64.j1]
        rw [if_neg (by decide)]
    refine Ev.step (fun k => ?_) both
    simp only [bits_Div64.l0]
    by_cases gq : q ≥ 4294967296
    · rw [if_pos gq, decide_eq_true (D.great S gq)]
    · rw [if_neg gq]
      have := D.word S gq
      rw [decide_eq_decide.2 this]

theorem div_l1 (S : Sized y1 y0 u c) (hS : 0 ≤ S8) {x15 x17 : Int} (m : Nat) : ∀ (q h : Int), Digit y1 y0 u c q h → 4294967296 ≤ h + m * y1 →
    Ev (fun k => bits_Div64.l1 k (y1 * 4294967296 + y0) S8 y1 y0 c x15 h x17 q)
      (IntKind.u64.wrap ((IntKind.u64.wrap (x15 * 4294967296)) + (u * 4294967296 + c) / (y1 * 4294967296 + y0)), shr .u64 (IntKind.u64.wrap ((IntKind.u64.wrap ((IntKind.u64.wrap (x17 * 4294967296)) + c)) - (IntKind.u64.wrap ((u * 4294967296 + c) / (y1 * 4294967296 + y0) * (y1 * 4294967296 + y0))))) S8) := by
  induction m with
  | zero => intro q h D g; have := D.h1; simp at g; omega
  | succ m ih =>
    intro q h D g
    have s1 := S.lo; have s2 := S.hi; have d1 := D.h0; have d2 := D.h1
    have hw : IntKind.u64.wrap (h + y1) = h + y1 := u64s _ (by omega) (by omega)
    have both : Ev (fun k => bits_Div64.j4 k (y1 * 4294967296 + y0) S8 y1 y0 c x15 h x17 q (decide (u * 4294967296 + c < q * (y1 * 4294967296 + y0))))
      (IntKind.u64.wrap ((IntKind.u64.wrap (x15 * 4294967296)) + (u * 4294967296 + c) / (y1 * 4294967296 + y0)), shr .u64 (IntKind.u64.wrap ((IntKind.u64.wrap ((IntKind.u64.wrap (x17 * 4294967296)) + c)) - (IntKind.u64.wrap ((u * 4294967296 + c) / (y1 * 4294967296 + y0) * (y1 * 4294967296 + y0))))) S8) := by
      by_cases t : u * 4294967296 + c < q * (y1 * 4294967296 + y0)
      · rw [decide_eq_true t]
        have hp := D.pos S t
        have hu : q * y1 ≤ u := by have := D.guess; omega
        have hqu : q ≤ q * y1 := by
          have : q * 1 ≤ q * y1 := Int.mul_le_mul_of_nonneg_left (by omega) (by omega)
          omega
        have hq1 : IntKind.u64.wrap (q - 1) = q - 1 := u64s _ (by omega) (by have := S.u1; have := S.z1; omega)
        by_cases l : h + y1 ≥ 4294967296
        · rw [D.stop S t l]
          refine ⟨1, fun k hk => ?_⟩
          obtain ⟨k, rfl⟩ : ∃ m, k = m + 1 := ⟨k - 1, by omega⟩
          simp only [bits_Div64.j4]
          rw [if_pos trivial, hw, hq1, if_pos l, if_pos hS]
        · refine Ev.step (f := fun k => bits_Div64.l1 k (y1 * 4294967296 + y0) S8 y1 y0 c x15 (h + y1) x17 (q - 1)) (fun k => ?_) (ih (q - 1) (h + y1) (D.less S t (by omega)) ?_)
          · simp only [bits_Div64.j4]
            rw [if_pos trivial, hw, hq1, if_neg l]
          · have : ((m + 1 : Nat) : Int) = (m : Int) + 1 := by omega
            rw [this, Int.add_mul, Int.one_mul] at g
            omega
      · rw [decide_eq_false t]
        rw [D.done S t]
        refine ⟨1, fun k hk => ?_⟩
        obtain ⟨k, rfl⟩ : ∃ m, k = m + 1 := ⟨k - 1, by omega⟩
        simp only [bits_Div64.j4]
        rw [if_neg (by decide), if_pos hS]
    refine Ev.step (fun k => ?_) both
    simp only [bits_Div64.l1]
    by_cases gq : q ≥ 4294967296
    · rw [if_pos gq, decide_eq_true (D.great S gq)]
    · rw [if_neg gq]
      have := D.word S gq
      rw [decide_eq_decide.2 this]
end

/-- The second digit's number, out of words. -/
theorem rest_word (u c q y : Int) (h0 : 0 ≤ u * 4294967296 + c - q * y) (h1 : u * 4294967296 + c - q * y < 18446744073709551616) :
    IntKind.u64.wrap (IntKind.u64.wrap (IntKind.u64.wrap (u * 4294967296) + c) - IntKind.u64.wrap (q * y)) = u * 4294967296 + c - q * y := by
  generalize q * y = m at *
  rw [u64w, u64w, u64w, u64w]; omega

theorem guess_word (u y1 : Int) (h0 : 0 ≤ u) (h1 : u < 18446744073709551616) (h2 : 0 < y1) :
    IntKind.u64.wrap (Int.tdiv u y1) = u / y1 ∧ IntKind.u64.wrap (u - IntKind.u64.wrap (IntKind.u64.wrap (Int.tdiv u y1) * y1)) = u % y1 := by
  have a0 : 0 ≤ u / y1 := Int.ediv_nonneg h0 (by omega)
  have a1 : u / y1 ≤ u := Int.ediv_le_self _ h0
  have e := Int.mul_ediv_add_emod u y1
  rw [Int.mul_comm] at e
  have m0 := Int.emod_nonneg u (show y1 ≠ 0 by omega)
  have m1 := Int.emod_lt_of_pos u h2
  have p0 : 0 ≤ u / y1 * y1 := Int.mul_nonneg a0 (by omega)
  have w : IntKind.u64.wrap (Int.tdiv u y1) = u / y1 := by rw [Int.tdiv_eq_ediv_of_nonneg h0]; exact u64s _ a0 (by omega)
  refine ⟨w, ?_⟩
  rw [w, u64s (u / y1 * y1) p0 (by omega), u64s _ (by omega) (by omega)]; omega

/-- Both digits. -/
theorem div_two {u c1 c0 s8 : Int} (S : Sized y1 y0 u c1) (hc0 : 0 ≤ c0) (hc0' : c0 < 4294967296) (hS : 0 ≤ s8) : ∃ r2,
    Ev (fun k => bits_Div64.l0 k (y1 * 4294967296 + y0) s8 y1 y0 u c1 c0 (IntKind.u64.wrap (Int.tdiv u y1)) (IntKind.u64.wrap (u - IntKind.u64.wrap (IntKind.u64.wrap (Int.tdiv u y1) * y1))))
      (((u * 4294967296 + c1) * 4294967296 + c0) / (y1 * 4294967296 + y0), r2) := by
  have s1 := S.lo; have s2 := S.hi; have s3 := S.z0; have s4 := S.z1; have s5 := S.u0; have s6 := S.u1; have s7 := S.c0; have s8' := S.c1
  have hu : u < 18446744073709551616 := by omega
  obtain ⟨g1, g2⟩ := guess_word u y1 s5 hu (by omega)
  have hq := S.digit
  have e1 := Int.mul_ediv_add_emod (u * 4294967296 + c1) (y1 * 4294967296 + y0)
  have m0 := Int.emod_nonneg (u * 4294967296 + c1) (show y1 * 4294967296 + y0 ≠ 0 by omega)
  have m1 := Int.emod_lt_of_pos (u * 4294967296 + c1) (show 0 < y1 * 4294967296 + y0 by omega)
  rw [Int.mul_comm] at e1
  generalize hQ : (u * 4294967296 + c1) / (y1 * 4294967296 + y0) = Q at *
  generalize hR : (u * 4294967296 + c1) % (y1 * 4294967296 + y0) = R at *
  have hR2 : u * 4294967296 + c1 - Q * (y1 * 4294967296 + y0) = R := by omega
  have T : Sized y1 y0 R c0 := ⟨s1, s2, s3, s4, m0, m1, hc0, hc0'⟩
  obtain ⟨k1, k2⟩ := guess_word R y1 m0 (by omega) (by omega)
  have hd := T.digit
  have e2 := Int.mul_ediv_add_emod (R * 4294967296 + c0) (y1 * 4294967296 + y0)
  have n0 := Int.emod_nonneg (R * 4294967296 + c0) (show y1 * 4294967296 + y0 ≠ 0 by omega)
  have n1 := Int.emod_lt_of_pos (R * 4294967296 + c0) (show 0 < y1 * 4294967296 + y0 by omega)
  rw [Int.mul_comm] at e2
  have L1 := div_l1 (S8 := s8) (x15 := Q) (x17 := R) T hS 3 (R / y1) (R % y1) (Digit.first T) (by have := (Digit.first T).h0; omega)
  have hfin : ((u * 4294967296 + c1) * 4294967296 + c0) / (y1 * 4294967296 + y0) = Q * 4294967296 + (R * 4294967296 + c0) / (y1 * 4294967296 + y0) := by
    refine quo_of _ _ ((R * 4294967296 + c0) % (y1 * 4294967296 + y0)) _ n0 n1 ?_
    rw [Int.add_mul, show Q * 4294967296 * (y1 * 4294967296 + y0) = Q * (y1 * 4294967296 + y0) * 4294967296 from by rw [Int.mul_assoc, Int.mul_comm 4294967296, Int.mul_assoc]]
    omega
  have hw : IntKind.u64.wrap ((IntKind.u64.wrap (Q * 4294967296)) + (R * 4294967296 + c0) / (y1 * 4294967296 + y0)) = Q * 4294967296 + (R * 4294967296 + c0) / (y1 * 4294967296 + y0) := by
    rw [u64s (Q * 4294967296) (by omega) (by omega), u64s _ (by omega) (by omega)]
  rw [hw] at L1
  rw [hfin]
  have J := Ev.step (g := fun k => bits_Div64.j2 k (y1 * 4294967296 + y0) s8 y1 y0 u c1 c0 Q) (fun k => by
    simp only [bits_Div64.j2]
    rw [if_neg (by omega), rest_word u c1 Q (y1 * 4294967296 + y0) (by omega) (by omega), hR2, k2, k1]) L1
  rw [← hQ] at J
  have F := div_l0 S 3 (u / y1) (u % y1) (Digit.first S) (by have := (Digit.first S).h0; omega) J
  rw [g2, g1]
  rw [hQ] at F
  exact ⟨_, F⟩


theorem and_low (x : Int) (h0 : 0 ≤ x) (h1 : x < 18446744073709551616) : Go.bits .and .u64 x 4294967295 = x % 4294967296 := by
  have := bits_mask .u64 64 (by decide) u64fits 32 (by decide) x h0 (by rw [show (2 ^ 64 : Int) = 18446744073709551616 from by rfl]; exact h1)
  rw [show ((2 : Int) ^ 32 - 1) = 4294967295 from by rfl, show ((2 : Int) ^ 32) = 4294967296 from by rfl] at this
  exact this

theorem pows (s : Nat) (h : s ≤ 64) : (2 : Int) ^ s * 2 ^ (64 - s) = 18446744073709551616 := by
  rw [← Int.pow_add, Nat.add_sub_cancel' h]; rfl

theorem shl_at (x : Int) (n : Nat) (h : n ≤ 64) : shl .u64 x (n : Int) = IntKind.u64.wrap (x * 2 ^ n) := by
  unfold shl
  rw [Int.toNat_natCast, show IntKind.u64.bits = 64 from rfl, Nat.min_eq_left h]

/-- How far the divisor is shifted. -/
theorem shift_of (d : Int) (h0 : 0 < d) (h1 : d < 9223372036854775808) : ∃ s : Nat, 1 ≤ s ∧ s ≤ 63 ∧ (64 - (Lib.bitLen d.toNat : Int)) = (s : Int) ∧ 9223372036854775808 ≤ d * 2 ^ s ∧ d * 2 ^ s < 18446744073709551616 := by
  obtain ⟨x, rfl⟩ := Int.eq_ofNat_of_zero_le (show 0 ≤ d by omega)
  have hb := bitLen_ends 63 x (by omega) (by rw [show (2 ^ 63 : Nat) = 9223372036854775808 from by rfl]; omega) (by omega)
  have hl : Lib.bitLen x ≤ 63 := Lib.bitLen_le x 63 (by omega) (by rw [show (2 ^ 63 : Nat) = 9223372036854775808 from by rfl]; omega)
  have hp : 1 ≤ Lib.bitLen x := by
    rcases Nat.eq_zero_or_pos (Lib.bitLen x) with e | e
    · rw [e] at hb; omega
    · exact e
  rw [Int.toNat_natCast]
  generalize Lib.bitLen x = l at *
  refine ⟨64 - l, by omega, by omega, by omega, ?_, ?_⟩
  · have e : (2 ^ l : Nat) * 2 ^ (64 - l) = 18446744073709551616 := by rw [← Nat.pow_add, Nat.add_sub_cancel' (by omega)]
    have m : 2 ^ l * 2 ^ (64 - l) ≤ 2 * x * 2 ^ (64 - l) := Nat.mul_le_mul_right _ hb.1
    rw [e, Nat.mul_assoc] at m
    have h : 9223372036854775808 ≤ x * 2 ^ (64 - l) := by omega
    have h' : ((9223372036854775808 : Nat) : Int) ≤ ((x * 2 ^ (64 - l) : Nat) : Int) := Int.ofNat_le.2 h
    rw [Int.natCast_mul, Int.natCast_pow] at h'; exact h'
  · have e : (2 ^ l : Nat) * 2 ^ (64 - l) = 18446744073709551616 := by rw [← Nat.pow_add, Nat.add_sub_cancel' (by omega)]
    have m : x * 2 ^ (64 - l) < 2 ^ l * 2 ^ (64 - l) := Nat.mul_lt_mul_of_pos_right hb.2 (Nat.two_pow_pos _)
    rw [e] at m
    have h' : ((x * 2 ^ (64 - l) : Nat) : Int) < ((18446744073709551616 : Nat) : Int) := Int.ofNat_lt.2 m
    rw [Int.natCast_mul, Int.natCast_pow] at h'; exact h'

/-- Div64 of a high word below the divisor: the quotient. -/
theorem div64_is (hi lo d : Int) (h0 : 0 ≤ hi) (h1 : hi < d) (h2 : 0 ≤ lo) (h3 : lo < 18446744073709551616) (h4 : d < 9223372036854775808) :
    ∃ r2, Ev (fun k => bits_Div64.f k hi lo d) ((hi * 18446744073709551616 + lo) / d, r2) := by
  by_cases c : hi = 0
  · subst c
    refine ⟨Int.tmod lo d, 0, fun k _ => ?_⟩
    show bits_Div64.f k 0 lo d = _
    unfold bits_Div64.f
    have a0 : 0 ≤ lo / d := Int.ediv_nonneg h2 (by omega)
    have a1 : lo / d ≤ lo := Int.ediv_le_self _ h2
    rw [if_neg (by omega), if_neg (by omega), if_pos rfl, Int.tdiv_eq_ediv_of_nonneg h2, u64s _ a0 (by omega), Int.zero_mul, Int.zero_add]
  · obtain ⟨s, hs1, hs2, hs3, hs4, hs5⟩ := shift_of d (by omega) h4
    have hpw := pows s (by omega)
    have p1 : (0 : Int) < 2 ^ s := Int.pow_pos (by decide)
    have p2 : (0 : Int) < 2 ^ (64 - s) := Int.pow_pos (by decide)
    -- the shifted words
    have hdS : shl .u64 d (s : Int) = d * 2 ^ s := by rw [shl_at d s (by omega)]; exact u64s _ (by omega) hs5
    have hhi : hi * 2 ^ s ≤ (d - 1) * 2 ^ s := Int.mul_le_mul_of_nonneg_right (by omega) (by omega)
    rw [Int.sub_mul, Int.one_mul] at hhi
    have hhi0 : 0 ≤ hi * 2 ^ s := Int.mul_nonneg h0 (by omega)
    have hhS : shl .u64 hi (s : Int) = hi * 2 ^ s := by rw [shl_at hi s (by omega)]; exact u64s _ hhi0 (by omega)
    have hsub : IntKind.u64.wrap (64 - (s : Int)) = ((64 - s : Nat) : Int) := by rw [u64s _ (by omega) (by omega)]; omega
    have hlo1 : lo / 2 ^ (64 - s) < 2 ^ s := Int.ediv_lt_of_lt_mul p2 (by rw [hpw]; exact h3)
    have hlo0 : 0 ≤ lo / 2 ^ (64 - s) := Int.ediv_nonneg h2 (by omega)
    have hps : (2 : Int) ^ s < 18446744073709551616 := by
      have : (2 : Int) ^ s * 1 ≤ 2 ^ s * 2 ^ (64 - s) := Int.mul_le_mul_of_nonneg_left (by omega) (by omega)
      have p3 : (2 : Int) ≤ 2 ^ (64 - s) := by
        have : (2 : Nat) ^ 1 ≤ 2 ^ (64 - s) := Nat.pow_le_pow_right (by decide) (by omega)
        exact_mod_cast this
      have : (2 : Int) ^ s * 2 ≤ 2 ^ s * 2 ^ (64 - s) := Int.mul_le_mul_of_nonneg_left p3 (by omega)
      omega
    have hor : Go.bits .or .u64 (hi * 2 ^ s) (lo / 2 ^ (64 - s)) = hi * 2 ^ s + lo / 2 ^ (64 - s) := by
      refine bits_join .u64 64 (by decide) u64fits s _ _ hhi0 (Int.mul_emod_left _ _) ?_ hlo0 hlo1 ?_
      · rw [show (2 ^ 64 : Int) = 18446744073709551616 from by rfl]; omega
      · rw [show (2 ^ 64 : Int) = 18446744073709551616 from by rfl]; omega
    have hloS : shl .u64 lo (s : Int) = lo * 2 ^ s % 18446744073709551616 := by rw [shl_at lo s (by omega), u64w]
    have hsplit : lo * 2 ^ s = lo / 2 ^ (64 - s) * 18446744073709551616 + lo * 2 ^ s % 18446744073709551616 := by
      have e := Int.mul_ediv_add_emod lo (2 ^ (64 - s))
      have m0 := Int.emod_nonneg lo (show (2 : Int) ^ (64 - s) ≠ 0 by omega)
      have m1 := Int.emod_lt_of_pos lo p2
      have e2 : lo * 2 ^ s = lo / 2 ^ (64 - s) * 18446744073709551616 + lo % 2 ^ (64 - s) * 2 ^ s := by
        rw [← hpw]
        have : lo / 2 ^ (64 - s) * (2 ^ s * 2 ^ (64 - s)) = 2 ^ (64 - s) * (lo / 2 ^ (64 - s)) * 2 ^ s := by
          rw [Int.mul_comm ((2:Int) ^ s), ← Int.mul_assoc, Int.mul_comm (lo / 2 ^ (64 - s))]
        rw [this, ← Int.add_mul, e]
      have b0 : 0 ≤ lo % 2 ^ (64 - s) * 2 ^ s := Int.mul_nonneg m0 (by omega)
      have b1 : lo % 2 ^ (64 - s) * 2 ^ s < 2 ^ (64 - s) * 2 ^ s := Int.mul_lt_mul_of_pos_right m1 p1
      rw [Int.mul_comm ((2:Int) ^ (64 - s)), hpw] at b1
      omega
    have hX : (hi * 18446744073709551616 + lo) / d = (((hi * 2 ^ s + lo / 2 ^ (64 - s)) * 4294967296 + lo * 2 ^ s % 18446744073709551616 / 4294967296) * 4294967296 + lo * 2 ^ s % 18446744073709551616 % 4294967296) / (d * 2 ^ s) := by
      rw [← Int.mul_ediv_mul_of_pos_left (hi * 18446744073709551616 + lo) d p1, Int.add_mul, Int.mul_assoc, Int.mul_comm 18446744073709551616, ← Int.mul_assoc]
      apply congrArg (fun z => z / (d * 2 ^ s))
      generalize hi * 2 ^ s = A at *
      generalize lo * 2 ^ s = B at *
      omega
    have hy : d * 2 ^ s = d * 2 ^ s / 4294967296 * 4294967296 + d * 2 ^ s % 4294967296 := by omega
    have S : Sized (d * 2 ^ s / 4294967296) (d * 2 ^ s % 4294967296) (hi * 2 ^ s + lo / 2 ^ (64 - s)) (lo * 2 ^ s % 18446744073709551616 / 4294967296) :=
      ⟨by omega, by omega, by omega, by omega, by omega, by omega, by omega, by omega⟩
    obtain ⟨r2, E⟩ := div_two (s8 := (s : Int)) S (c0 := lo * 2 ^ s % 18446744073709551616 % 4294967296) (by omega) (by omega) (by omega)
    rw [← hy] at E
    refine ⟨r2, ?_⟩
    rw [hX]
    refine Ev.congr (fun k => ?_) E
    show bits_Div64.f k hi lo d = _
    unfold bits_Div64.f
    have hlz : bits_LeadingZeros64.f k d = some (s : Int) := by
      unfold bits_LeadingZeros64.f
      rw [if_pos (by omega), if_pos (by omega), hs3]
    rw [if_neg (by omega), if_neg (by omega), if_neg c, hlz]
    simp only [Option.bind_some]
    rw [u64s (s : Int) (by omega) (by omega), hsub, if_pos (by omega), if_pos (by omega), hdS, if_neg (by omega), hhS, shr_at lo (64 - s) (by omega), hor, hloS,
      and_low _ (by omega) (by omega), and_low _ (by omega) (by omega)]

end Go.Proofs.YtgkeemjadjnhkaaGreatDoor.Num
