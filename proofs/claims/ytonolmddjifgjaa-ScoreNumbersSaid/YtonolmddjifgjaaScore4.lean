/- Printed by tools/more.py (a program of this session's own, over the print.py of the kit) out of the translation. -/
import Derived.Test.YtonolmddjifgjaaScore0
import Derived.Test.YtonolmddjifgjaaScore1
import Derived.Test.YtonolmddjifgjaaScore2
import Derived.Test.YtonolmddjifgjaaScore3
namespace Go.Proofs.Ytonolmddjifgjaa.PScore
open Go.RowKit Go.Proofs.YtonolmddjifgjaaW.PrintWords Go.Proofs.YtonolmddjifgjaaW.PrintLast Go.Proofs.YtonolmddjifgjaaW.PrintMore
attribute [local go_sem] max2_int min2_int max_two min_two max_three min_three max_four min_four   -- for this text's walks alone
set_option linter.unusedVariables false
set_option linter.unusedSimpArgs false

/-! ### lecternref21_quotient: function 34 -/
mutual
def lecternref21_quotient.l0 : Nat → Int → Int → Int → Int → Int → Int → Option (Int)
  | 0, _, _, _, _, _, _ => none
  | k + 1, x0, x1, x2, x7, x8, x9 => if x9 ≥ 0 then (if 0 ≤ (IntKind.u64.wrap (x9)) then (if (Go.bits .and .u64 (shr .u64 x0 (IntKind.u64.wrap (x9))) 1) = 1 then (lecternref21_quotient.j1 k x0 x1 x2 (IntKind.u64.wrap (x7 * 2)) (IntKind.u64.wrap ((IntKind.u64.wrap (x8 * 2)) + x1)) x9) else (lecternref21_quotient.j1 k x0 x1 x2 (IntKind.u64.wrap (x7 * 2)) (IntKind.u64.wrap (x8 * 2)) x9)) else (none)) else (some x7)
def lecternref21_quotient.j1 : Nat → Int → Int → Int → Int → Int → Int → Option (Int)
  | 0, _, _, _, _, _, _ => none
  | k + 1, x0, x1, x2, x7, x8, x9 => lecternref21_quotient.l1 k x0 x1 x2 x7 x8 x9
def lecternref21_quotient.l1 : Nat → Int → Int → Int → Int → Int → Int → Option (Int)
  | 0, _, _, _, _, _, _ => none
  | k + 1, x0, x1, x2, x7, x8, x9 => if x8 ≥ x2 then (lecternref21_quotient.l1 k x0 x1 x2 (IntKind.u64.wrap (x7 + 1)) (IntKind.u64.wrap (x8 - x2)) x9) else (lecternref21_quotient.l0 k x0 x1 x2 x7 x8 (wrap64 (x9 - 1)))
end
def lecternref21_quotient.f (k : Nat) (a0 : Int) (a1 : Int) (a2 : Int) : Option (Int) := lecternref21_quotient.l0 k a0 a1 a2 0 0 63
theorem lecternref21_quotient.mono_l : ∀ k, (∀ y0 y1 y2 y3 y4 y5, LeO (lecternref21_quotient.l0 k y0 y1 y2 y3 y4 y5) (lecternref21_quotient.l0 (k + 1) y0 y1 y2 y3 y4 y5)) ∧ (∀ y0 y1 y2 y3 y4 y5, LeO (lecternref21_quotient.j1 k y0 y1 y2 y3 y4 y5) (lecternref21_quotient.j1 (k + 1) y0 y1 y2 y3 y4 y5)) ∧ (∀ y0 y1 y2 y3 y4 y5, LeO (lecternref21_quotient.l1 k y0 y1 y2 y3 y4 y5) (lecternref21_quotient.l1 (k + 1) y0 y1 y2 y3 y4 y5))
  | 0 => ⟨fun _ _ _ _ _ _ r h => by simp [lecternref21_quotient.l0] at h, fun _ _ _ _ _ _ r h => by simp [lecternref21_quotient.j1] at h, fun _ _ _ _ _ _ r h => by simp [lecternref21_quotient.l1] at h⟩
  | k + 1 => by
    obtain ⟨ih0, ih1, ih2⟩ := lecternref21_quotient.mono_l k
    refine ⟨?_, ?_, ?_⟩
    · intro y0 y1 y2 y3 y4 y5
      unfold lecternref21_quotient.l0
      repeat' first
      | (with_reducible exact ih0 _ _ _ _ _ _)
      | (with_reducible exact ih1 _ _ _ _ _ _)
      | (with_reducible exact ih2 _ _ _ _ _ _)
      | (with_reducible exact LeO.refl _)
      | (with_reducible exact LeO.none _)
      | (with_reducible refine LeO.ite ?_ ?_)
      | (with_reducible refine LeO.bind ?_ (fun _ => ?_))
      | exact ih0 _ _ _ _ _ _
      | exact ih1 _ _ _ _ _ _
      | exact ih2 _ _ _ _ _ _
      | exact LeO.none _
      | refine LeO.ite ?_ ?_
      | refine LeO.bind ?_ (fun _ => ?_)
    · intro y0 y1 y2 y3 y4 y5
      unfold lecternref21_quotient.j1
      repeat' first
      | (with_reducible exact ih0 _ _ _ _ _ _)
      | (with_reducible exact ih1 _ _ _ _ _ _)
      | (with_reducible exact ih2 _ _ _ _ _ _)
      | (with_reducible exact LeO.refl _)
      | (with_reducible exact LeO.none _)
      | (with_reducible refine LeO.ite ?_ ?_)
      | (with_reducible refine LeO.bind ?_ (fun _ => ?_))
      | exact ih0 _ _ _ _ _ _
      | exact ih1 _ _ _ _ _ _
      | exact ih2 _ _ _ _ _ _
      | exact LeO.none _
      | refine LeO.ite ?_ ?_
      | refine LeO.bind ?_ (fun _ => ?_)
    · intro y0 y1 y2 y3 y4 y5
      unfold lecternref21_quotient.l1
      repeat' first
      | (with_reducible exact ih0 _ _ _ _ _ _)
      | (with_reducible exact ih1 _ _ _ _ _ _)
      | (with_reducible exact ih2 _ _ _ _ _ _)
      | (with_reducible exact LeO.refl _)
      | (with_reducible exact LeO.none _)
      | (with_reducible refine LeO.ite ?_ ?_)
      | (with_reducible refine LeO.bind ?_ (fun _ => ?_))
      | exact ih0 _ _ _ _ _ _
      | exact ih1 _ _ _ _ _ _
      | exact ih2 _ _ _ _ _ _
      | exact LeO.none _
      | refine LeO.ite ?_ ?_
      | refine LeO.bind ?_ (fun _ => ?_)
theorem lecternref21_quotient.mono : ∀ a0 a1 a2 k, LeO (lecternref21_quotient.f k a0 a1 a2) (lecternref21_quotient.f (k + 1) a0 a1 a2) := by
  intro a0 a1 a2 k
  obtain ⟨ih0, ih1, ih2⟩ := lecternref21_quotient.mono_l k
  unfold lecternref21_quotient.f
  repeat' first
      | (with_reducible exact ih0 _ _ _ _ _ _)
      | (with_reducible exact ih1 _ _ _ _ _ _)
      | (with_reducible exact ih2 _ _ _ _ _ _)
      | (with_reducible exact LeO.refl _)
      | (with_reducible exact LeO.none _)
      | (with_reducible refine LeO.ite ?_ ?_)
      | (with_reducible refine LeO.bind ?_ (fun _ => ?_))
      | exact ih0 _ _ _ _ _ _
      | exact ih1 _ _ _ _ _ _
      | exact ih2 _ _ _ _ _ _
      | exact LeO.none _
      | refine LeO.ite ?_ ?_
      | refine LeO.bind ?_ (fun _ => ?_)
set_option maxHeartbeats 8000000 in
set_option maxRecDepth 100000 in
theorem lecternref21_quotient.calls (k : Nat) (a0 : Int) (a1 : Int) (a2 : Int) (r : Int) (w : World) (h : lecternref21_quotient.f k a0 a1 a2 = some r) :
    Calls Try.prog 34 #[.int .u64 a0, .int .u64 a1, .int .u64 a2] w fun e w' => e = .returned (.int .u64 r) ∧ Drawn0 w w' := by
  have H : (lecternref21_quotient.l0 k a0 a1 a2 0 0 63) = some r := h
  clear h
  have H' := Aside0.mk H
  clear H
  go_enter Try.func34, Try.ntmps34
  go_wp2
  go_loopg [7, 8, 9] k (fun kq v7 v8 v9 w' => ∃ (x7_1 : Int) (x8_1 : Int) (x9_1 : Int), v7 = .int .u64 x7_1 ∧ v8 = .int .u64 x8_1 ∧ v9 = .int .i64 x9_1 ∧ Aside0 (lecternref21_quotient.l0 kq a0 a1 a2 x7_1 x8_1 x9_1 = some r) ∧ Aside0 (kq ≤ k) ∧ Drawn0 w w')
  case atStart => exact ⟨(0), (0), (63), (by first | rfl | (simp; done) | (simp [*]; done)), (by first | rfl | (simp; done) | (simp [*]; done)), (by first | rfl | (simp; done) | (simp [*]; done)), H', ⟨Nat.le_refl _⟩, by repeat (first | exact Drawn0.refl _ | apply Drawn0.step)⟩
  case round =>
    clear H'
    try clear p2
    try clear c3
    obtain ⟨x7_1, x8_1, x9_1, rfl, rfl, rfl, HA, HK1, ⟨m1, rfl⟩⟩ := hrel
    cases gk with
    | zero => exact absurd HA.out (by simp [lecternref21_quotient.l0])
    | succ k1 =>
      have H := HA.out
      clear HA
      simp only [lecternref21_quotient.l0] at H
      by_cases c4 : x9_1 ≥ 0
      · rw [if_pos c4] at H
        have c4b0 : decide (0 ≤ x9_1) = true := decide_eq_true c4
        clear c4
        obtain ⟨ji5, hji5⟩ : ∃ j_ : Int, (IntKind.u64.wrap (x9_1)) = j_ := ⟨_, rfl⟩
        replace H : (if 0 ≤ (ji5) then (if (Go.bits .and .u64 (shr .u64 a0 (ji5)) 1) = 1 then (lecternref21_quotient.j1 k1 a0 a1 a2 (IntKind.u64.wrap (x7_1 * 2)) (IntKind.u64.wrap ((IntKind.u64.wrap (x8_1 * 2)) + a1)) x9_1) else (lecternref21_quotient.j1 k1 a0 a1 a2 (IntKind.u64.wrap (x7_1 * 2)) (IntKind.u64.wrap (x8_1 * 2)) x9_1)) else (none)) = some r := by first | (rw [hji5] at H; exact H) | (simp only [hji5] at H ⊢; exact H)
        by_cases c6 : 0 ≤ (ji5)
        · rw [if_pos c6] at H
          have c6b0 := eq_true c6
          have c6b1 : decide (0 ≤ (ji5)) = true := decide_eq_true c6
          clear c6
          obtain ⟨ji7, hji7⟩ : ∃ j_ : Int, (shr .u64 a0 (ji5)) = j_ := ⟨_, rfl⟩
          replace H : (if (Go.bits .and .u64 (ji7) 1) = 1 then (lecternref21_quotient.j1 k1 a0 a1 a2 (IntKind.u64.wrap (x7_1 * 2)) (IntKind.u64.wrap ((IntKind.u64.wrap (x8_1 * 2)) + a1)) x9_1) else (lecternref21_quotient.j1 k1 a0 a1 a2 (IntKind.u64.wrap (x7_1 * 2)) (IntKind.u64.wrap (x8_1 * 2)) x9_1)) = some r := by first | (rw [hji7] at H; exact H) | (simp only [hji7] at H ⊢; exact H)
          have hji7_ : (a0 / 2 ^ min (ji5).toNat 64) = ji7 := hji7
          have hji7z : (ji5) ≤ 64 → (a0 / 2 ^ (ji5).toNat) = ji7 := shr_small hji7
          have HC8 := Aside0.mk H
          clear H
          go_upto_if 23 with (fail)
          go_cut [8] (fun v8 wc => ∃ (kq : Nat) (x8_7 : Int), v8 = .int .u64 x8_7 ∧ Aside0 (lecternref21_quotient.j1 kq a0 a1 a2 (IntKind.u64.wrap (x7_1 * 2)) x8_7 x9_1 = some r) ∧ Aside0 (kq ≤ k1) ∧ Drawn0 w wc)
          case first =>
            have H := HC8.out
            clear HC8
            by_cases c9 : (Go.bits .and .u64 (ji7) 1) = 1
            · rw [if_pos c9] at H
              have c9b0 : ((Go.bits .and .u64 (ji7) 1) == 1) = true := beq_iff_eq.mpr c9
              have c9b1 : ((Go.bits .and .u64 (ji7) 1) != 1) = false := bne_eq_false_iff_eq.mpr c9
              clear c9
              (first | rw [c9b0] | (simp only [i64_w, i32_w]; rw [c9b0]) | skip)
              have H' := Aside0.mk H
              clear H
              go_wp2
              go_meet
              case rel => exact ⟨_, (IntKind.u64.wrap ((IntKind.u64.wrap (x8_1 * 2)) + a1)), (by first | rfl | (simp; done) | (simp [*]; done)), H', ⟨by have := HK1.out; first | omega | exact Nat.le_refl _⟩, by repeat (first | exact Drawn0.refl _ | apply Drawn0.step)⟩
            · rw [if_neg c9] at H
              have c9b0 : ((Go.bits .and .u64 (ji7) 1) == 1) = false := beq_eq_false_iff_ne.mpr c9
              have c9b1 : ((Go.bits .and .u64 (ji7) 1) != 1) = true := bne_iff_ne.mpr c9
              (first | rw [c9b0] | (simp only [i64_w, i32_w]; rw [c9b0]) | skip)
              have H' := Aside0.mk H
              clear H
              go_wp2
              go_meet
              case rel => exact ⟨_, (IntKind.u64.wrap (x8_1 * 2)), (by first | rfl | (simp; done) | (simp [*]; done)), H', ⟨by have := HK1.out; first | omega | exact Nat.le_refl _⟩, by repeat (first | exact Drawn0.refl _ | apply Drawn0.step)⟩
          case rest =>
            clear HC8
            try clear p2
            try clear c3
            try clear c4
            try clear c4b0
            try clear c6
            try clear c6b0
            try clear c6b1
            try clear c9
            try clear c9b0
            try clear c9b1
            try clear p2
            obtain ⟨kq, x8_7, rfl, HA, HJ7, ⟨mc7, rfl⟩⟩ := hcut
            cases kq with
            | zero => exact absurd HA.out (by simp [lecternref21_quotient.j1])
            | succ kj7 =>
              have H := HA.out
              clear HA
              simp only [lecternref21_quotient.j1] at H
              have H' := Aside0.mk H
              clear H
              go_wp2
              go_loopg [7, 8] kj7 (fun kq v7 v8 w' => ∃ (x7_3 : Int) (x8_3 : Int), v7 = .int .u64 x7_3 ∧ v8 = .int .u64 x8_3 ∧ Aside0 (lecternref21_quotient.l1 kq a0 a1 a2 x7_3 x8_3 x9_1 = some r) ∧ Aside0 (kq ≤ kj7) ∧ Drawn0 w w')
              case atStart => exact ⟨((IntKind.u64.wrap (x7_1 * 2))), (x8_7), (by first | rfl | (simp; done) | (simp [*]; done)), (by first | rfl | (simp; done) | (simp [*]; done)), H', ⟨Nat.le_refl _⟩, by repeat (first | exact Drawn0.refl _ | apply Drawn0.step)⟩
              case round =>
                clear H'
                try clear p2
                try clear c3
                try clear c4
                try clear c4b0
                try clear c6
                try clear c6b0
                try clear c6b1
                try clear c7
                try clear c9
                try clear c9b0
                try clear c9b1
                try clear p2
                obtain ⟨x7_3, x8_3, rfl, rfl, HA, HK3, ⟨m3, rfl⟩⟩ := hrel
                cases gk with
                | zero => exact absurd HA.out (by simp [lecternref21_quotient.l1])
                | succ k3 =>
                  have H := HA.out
                  clear HA
                  simp only [lecternref21_quotient.l1] at H
                  by_cases c10 : x8_3 ≥ a2
                  · rw [if_pos c10] at H
                    have c10b0 : decide (a2 ≤ x8_3) = true := decide_eq_true c10
                    clear c10
                    have H' := Aside0.mk H
                    clear H
                    go_wp2
                    go_roundg k3
                    case measure => have := HK1.out; have := HJ7.out; have := HK3.out; omega
                    case rel => exact ⟨(IntKind.u64.wrap (x7_3 + 1)), (IntKind.u64.wrap (x8_3 - a2)), (by first | rfl | (simp; done) | (simp [*]; done)), (by first | rfl | (simp; done) | (simp [*]; done)), H', ⟨by have := HK1.out; have := HJ7.out; have := HK3.out; omega⟩, by repeat (first | exact Drawn0.refl _ | apply Drawn0.step)⟩
                  · rw [if_neg c10] at H
                    have c10b0 : decide (a2 ≤ x8_3) = false := decide_eq_false c10
                    clear c10
                    have H' := Aside0.mk H
                    clear H
                    go_wp2
                    go_roundg k3
                    case measure => have := HK1.out; have := HJ7.out; have := HK3.out; omega
                    case rel => exact ⟨(x7_3), (x8_3), (wrap64 (x9_1 - 1)), (by first | rfl | (simp; done) | (simp [*]; done)), (by first | rfl | (simp; done) | (simp [*]; done)), (by first | rfl | (simp; done) | (simp [*]; done)), H', ⟨by have := HK1.out; have := HJ7.out; have := HK3.out; omega⟩, by repeat (first | exact Drawn0.refl _ | apply Drawn0.step)⟩
        · rw [if_neg c6] at H
          exact absurd H (by simp)
      · rw [if_neg c4] at H
        have c4b0 : decide (0 ≤ x9_1) = false := decide_eq_false c4
        clear c4
        obtain rfl := Option.some.inj H
        go_wp2
        go_ret
        exact ⟨by first | rfl | (simp; done) | (simp [*]; done), by repeat (first | exact Drawn0.refl _ | apply Drawn0.step)⟩

/-! ### lecternref21_Weight: function 21 -/
def lecternref21_Weight.f (k : Nat) (a0 : Int) (a1 : Int) (a2 : Int) (a3 : Int) (a4 : Int) : Option (Int) := if a0 < 0 then (some 0) else (if a0 > 1099511627776 then (some 0) else (if a1 < 1 then (some 0) else (if a1 > 1048576 then (some 0) else (if a2 < 1 then (some 0) else (if a2 > 1048576 then (some 0) else (if a3 < 1 then (some 0) else (if a3 > 1048576 then (some 0) else (if a4 < 1 then (some 0) else (if a4 > 1099511627776 then (some 0) else (if (wrap64 (10 * a4)) = 0 then (none) else ((lecternref21_quotient.f k (IntKind.u64.wrap (wrap64 (22 * a0))) (IntKind.u64.wrap (wrap64 (65536 * a1))) (IntKind.u64.wrap (wrap64 (10 * (wrap64 ((wrap64 (65536 * a1)) + (wrap64 (Int.tdiv (wrap64 (65536 * (wrap64 ((wrap64 (3 * a4)) + (wrap64 ((wrap64 (9 * a2)) * a3)))))) (wrap64 (10 * a4)))))))))).bind fun t111 => (some (wrap64 (t111))))))))))))))
theorem lecternref21_Weight.mono : ∀ a0 a1 a2 a3 a4 k, LeO (lecternref21_Weight.f k a0 a1 a2 a3 a4) (lecternref21_Weight.f (k + 1) a0 a1 a2 a3 a4) := by
  intro a0 a1 a2 a3 a4 k
  unfold lecternref21_Weight.f
  repeat' first
      | (with_reducible exact lecternref21_quotient.mono _ _ _ _)
      | (with_reducible exact LeO.refl _)
      | (with_reducible exact LeO.none _)
      | (with_reducible refine LeO.ite ?_ ?_)
      | (with_reducible refine LeO.bind ?_ (fun _ => ?_))
      | exact lecternref21_quotient.mono _ _ _ _
      | exact LeO.none _
      | refine LeO.ite ?_ ?_
      | refine LeO.bind ?_ (fun _ => ?_)
set_option maxHeartbeats 8000000 in
set_option maxRecDepth 100000 in
theorem lecternref21_Weight.calls (k : Nat) (a0 : Int) (a1 : Int) (a2 : Int) (a3 : Int) (a4 : Int) (r : Int) (w : World) (h : lecternref21_Weight.f k a0 a1 a2 a3 a4 = some r) :
    Calls Try.prog 21 #[.int .i64 a0, .int .i64 a1, .int .i64 a2, .int .i64 a3, .int .i64 a4] w fun e w' => e = .returned (.int .i64 r) ∧ Drawn0 w w' := by
  have H : (if a0 < 0 then (some 0) else (if a0 > 1099511627776 then (some 0) else (if a1 < 1 then (some 0) else (if a1 > 1048576 then (some 0) else (if a2 < 1 then (some 0) else (if a2 > 1048576 then (some 0) else (if a3 < 1 then (some 0) else (if a3 > 1048576 then (some 0) else (if a4 < 1 then (some 0) else (if a4 > 1099511627776 then (some 0) else (if (wrap64 (10 * a4)) = 0 then (none) else ((lecternref21_quotient.f k (IntKind.u64.wrap (wrap64 (22 * a0))) (IntKind.u64.wrap (wrap64 (65536 * a1))) (IntKind.u64.wrap (wrap64 (10 * (wrap64 ((wrap64 (65536 * a1)) + (wrap64 (Int.tdiv (wrap64 (65536 * (wrap64 ((wrap64 (3 * a4)) + (wrap64 ((wrap64 (9 * a2)) * a3)))))) (wrap64 (10 * a4)))))))))).bind fun t111 => (some (wrap64 (t111))))))))))))))) = some r := h
  clear h
  by_cases c6 : a0 < 0
  · rw [if_pos c6] at H
    have c6b0 : decide (a0 < 0) = true := decide_eq_true c6
    clear c6
    obtain rfl := Option.some.inj H
    go_enter Try.func21, Try.ntmps21
    go_wp2
    go_ret
    exact ⟨by first | rfl | (simp; done) | (simp [*]; done), by repeat (first | exact Drawn0.refl _ | apply Drawn0.step)⟩
  · rw [if_neg c6] at H
    have c6b0 : decide (a0 < 0) = false := decide_eq_false c6
    clear c6
    by_cases c7 : a0 > 1099511627776
    · rw [if_pos c7] at H
      have c7b0 : decide (1099511627776 < a0) = true := decide_eq_true c7
      clear c7
      obtain rfl := Option.some.inj H
      go_enter Try.func21, Try.ntmps21
      go_wp2
      go_ret
      exact ⟨by first | rfl | (simp; done) | (simp [*]; done), by repeat (first | exact Drawn0.refl _ | apply Drawn0.step)⟩
    · rw [if_neg c7] at H
      have c7b0 : decide (1099511627776 < a0) = false := decide_eq_false c7
      clear c7
      by_cases c8 : a1 < 1
      · rw [if_pos c8] at H
        have c8b0 : decide (a1 < 1) = true := decide_eq_true c8
        clear c8
        obtain rfl := Option.some.inj H
        go_enter Try.func21, Try.ntmps21
        go_wp2
        go_ret
        exact ⟨by first | rfl | (simp; done) | (simp [*]; done), by repeat (first | exact Drawn0.refl _ | apply Drawn0.step)⟩
      · rw [if_neg c8] at H
        have c8b0 : decide (a1 < 1) = false := decide_eq_false c8
        clear c8
        by_cases c9 : a1 > 1048576
        · rw [if_pos c9] at H
          have c9b0 : decide (1048576 < a1) = true := decide_eq_true c9
          clear c9
          obtain rfl := Option.some.inj H
          go_enter Try.func21, Try.ntmps21
          go_wp2
          go_ret
          exact ⟨by first | rfl | (simp; done) | (simp [*]; done), by repeat (first | exact Drawn0.refl _ | apply Drawn0.step)⟩
        · rw [if_neg c9] at H
          have c9b0 : decide (1048576 < a1) = false := decide_eq_false c9
          clear c9
          by_cases c10 : a2 < 1
          · rw [if_pos c10] at H
            have c10b0 : decide (a2 < 1) = true := decide_eq_true c10
            clear c10
            obtain rfl := Option.some.inj H
            go_enter Try.func21, Try.ntmps21
            go_wp2
            go_ret
            exact ⟨by first | rfl | (simp; done) | (simp [*]; done), by repeat (first | exact Drawn0.refl _ | apply Drawn0.step)⟩
          · rw [if_neg c10] at H
            have c10b0 : decide (a2 < 1) = false := decide_eq_false c10
            clear c10
            by_cases c11 : a2 > 1048576
            · rw [if_pos c11] at H
              have c11b0 : decide (1048576 < a2) = true := decide_eq_true c11
              clear c11
              obtain rfl := Option.some.inj H
              go_enter Try.func21, Try.ntmps21
              go_wp2
              go_ret
              exact ⟨by first | rfl | (simp; done) | (simp [*]; done), by repeat (first | exact Drawn0.refl _ | apply Drawn0.step)⟩
            · rw [if_neg c11] at H
              have c11b0 : decide (1048576 < a2) = false := decide_eq_false c11
              clear c11
              by_cases c12 : a3 < 1
              · rw [if_pos c12] at H
                have c12b0 : decide (a3 < 1) = true := decide_eq_true c12
                clear c12
                obtain rfl := Option.some.inj H
                go_enter Try.func21, Try.ntmps21
                go_wp2
                go_ret
                exact ⟨by first | rfl | (simp; done) | (simp [*]; done), by repeat (first | exact Drawn0.refl _ | apply Drawn0.step)⟩
              · rw [if_neg c12] at H
                have c12b0 : decide (a3 < 1) = false := decide_eq_false c12
                clear c12
                by_cases c13 : a3 > 1048576
                · rw [if_pos c13] at H
                  have c13b0 : decide (1048576 < a3) = true := decide_eq_true c13
                  clear c13
                  obtain rfl := Option.some.inj H
                  go_enter Try.func21, Try.ntmps21
                  go_wp2
                  go_ret
                  exact ⟨by first | rfl | (simp; done) | (simp [*]; done), by repeat (first | exact Drawn0.refl _ | apply Drawn0.step)⟩
                · rw [if_neg c13] at H
                  have c13b0 : decide (1048576 < a3) = false := decide_eq_false c13
                  clear c13
                  by_cases c14 : a4 < 1
                  · rw [if_pos c14] at H
                    have c14b0 : decide (a4 < 1) = true := decide_eq_true c14
                    clear c14
                    obtain rfl := Option.some.inj H
                    go_enter Try.func21, Try.ntmps21
                    go_wp2
                    go_ret
                    exact ⟨by first | rfl | (simp; done) | (simp [*]; done), by repeat (first | exact Drawn0.refl _ | apply Drawn0.step)⟩
                  · rw [if_neg c14] at H
                    have c14b0 : decide (a4 < 1) = false := decide_eq_false c14
                    clear c14
                    by_cases c15 : a4 > 1099511627776
                    · rw [if_pos c15] at H
                      have c15b0 : decide (1099511627776 < a4) = true := decide_eq_true c15
                      clear c15
                      obtain rfl := Option.some.inj H
                      go_enter Try.func21, Try.ntmps21
                      go_wp2
                      go_ret
                      exact ⟨by first | rfl | (simp; done) | (simp [*]; done), by repeat (first | exact Drawn0.refl _ | apply Drawn0.step)⟩
                    · rw [if_neg c15] at H
                      have c15b0 : decide (1099511627776 < a4) = false := decide_eq_false c15
                      clear c15
                      by_cases c16 : (wrap64 (10 * a4)) = 0
                      · rw [if_pos c16] at H
                        exact absurd H (by simp)
                      · rw [if_neg c16] at H
                        have c16b0 : ((wrap64 (10 * a4)) == 0) = false := beq_eq_false_iff_ne.mpr c16
                        have c16b1 : ((wrap64 (10 * a4)) != 0) = true := bne_iff_ne.mpr c16
                        replace H := Option.bind_eq_some_iff.mp H
                        obtain ⟨t111, A170, H⟩ := H
                        replace H : (some (wrap64 (t111))) = some r := H
                        have A17 := Aside0.mk A170
                        clear A170
                        obtain rfl := Option.some.inj H
                        go_enter Try.func21, Try.ntmps21
                        go_wp2_with (first | ((with_reducible refine gate_callee (f := 34) rfl ?_); refine goesL_ (some 79) rfl rfl Try.func34 (by kernel_rfl) rfl #[.int .u64 (IntKind.u64.wrap (wrap64 (22 * a0))), .int .u64 (IntKind.u64.wrap (wrap64 (65536 * a1))), .int .u64 (IntKind.u64.wrap (wrap64 (10 * (wrap64 ((wrap64 (65536 * a1)) + (wrap64 (Int.tdiv (wrap64 (65536 * (wrap64 ((wrap64 (3 * a4)) + (wrap64 ((wrap64 (9 * a2)) * a3)))))) (wrap64 (10 * a4)))))))))] rfl (by (try simp only [List.map_toArray, List.map_cons, List.map_nil]); first | done | rfl | (simp only [List.length_drop, List.length_take]; rfl)) ?_; (with_reducible refine (lecternref21_quotient.calls k (IntKind.u64.wrap (wrap64 (22 * a0))) (IntKind.u64.wrap (wrap64 (65536 * a1))) (IntKind.u64.wrap (wrap64 (10 * (wrap64 ((wrap64 (65536 * a1)) + (wrap64 (Int.tdiv (wrap64 (65536 * (wrap64 ((wrap64 (3 * a4)) + (wrap64 ((wrap64 (9 * a2)) * a3)))))) (wrap64 (10 * a4))))))))) t111 _ A17.out).mono ?_); rintro e w' ⟨rfl, ⟨nd, rfl⟩⟩; refine ⟨_, rfl, ?_⟩))
                        go_ret
                        exact ⟨by first | rfl | (simp; done) | (simp [*]; done), by repeat (first | exact Drawn0.refl _ | apply Drawn0.step)⟩

/-! ### lecternlaw21_ScoreNumbers: function 4 -/
def lecternlaw21_ScoreNumbers.f (k : Nat) (a0 : Int) (a1 : Int) (a2 : Int) (a3 : Int) (a4 : Int) : Option (Bool) := (score_Sum.f k a0 a1).bind fun t112 => ((lecternref21_Sum.f k a0 a1).bind fun t113 => (if t112 = t113 then ((score_Times.f k a0 a1).bind fun t114 => ((lecternref21_Times.f k a0 a1).bind fun t115 => (if t114 = t115 then ((score_Log.f k a0 a1).bind fun t116 => ((lecternref21_Log.f k a0 a1).bind fun t117 => (if t116 = t117 then ((score_Weight.f k a0 a2 a3 a4 a1).bind fun t118 => ((lecternref21_Weight.f k a0 a2 a3 a4 a1).bind fun t119 => (some (t118 == t119)))) else (some false)))) else (some false)))) else (some false)))
theorem lecternlaw21_ScoreNumbers.mono : ∀ a0 a1 a2 a3 a4 k, LeO (lecternlaw21_ScoreNumbers.f k a0 a1 a2 a3 a4) (lecternlaw21_ScoreNumbers.f (k + 1) a0 a1 a2 a3 a4) := by
  intro a0 a1 a2 a3 a4 k
  unfold lecternlaw21_ScoreNumbers.f
  repeat' first
      | (with_reducible exact lecternref21_Log.mono _ _ _)
      | (with_reducible exact lecternref21_Sum.mono _ _ _)
      | (with_reducible exact lecternref21_Times.mono _ _ _)
      | (with_reducible exact lecternref21_Weight.mono _ _ _ _ _ _)
      | (with_reducible exact score_Log.mono _ _ _)
      | (with_reducible exact score_Sum.mono _ _ _)
      | (with_reducible exact score_Times.mono _ _ _)
      | (with_reducible exact score_Weight.mono _ _ _ _ _ _)
      | (with_reducible exact LeO.refl _)
      | (with_reducible exact LeO.none _)
      | (with_reducible refine LeO.ite ?_ ?_)
      | (with_reducible refine LeO.bind ?_ (fun _ => ?_))
      | exact lecternref21_Log.mono _ _ _
      | exact lecternref21_Sum.mono _ _ _
      | exact lecternref21_Times.mono _ _ _
      | exact lecternref21_Weight.mono _ _ _ _ _ _
      | exact score_Log.mono _ _ _
      | exact score_Sum.mono _ _ _
      | exact score_Times.mono _ _ _
      | exact score_Weight.mono _ _ _ _ _ _
      | exact LeO.none _
      | refine LeO.ite ?_ ?_
      | refine LeO.bind ?_ (fun _ => ?_)
set_option maxHeartbeats 8000000 in
set_option maxRecDepth 100000 in
theorem lecternlaw21_ScoreNumbers.calls (k : Nat) (a0 : Int) (a1 : Int) (a2 : Int) (a3 : Int) (a4 : Int) (r : Bool) (w : World) (h : lecternlaw21_ScoreNumbers.f k a0 a1 a2 a3 a4 = some r) :
    Calls Try.prog 4 #[.int .i64 a0, .int .i64 a1, .int .i64 a2, .int .i64 a3, .int .i64 a4] w fun e w' => e = .returned (.bool r) ∧ Drawn0 w w' := by
  have H : ((score_Sum.f k a0 a1).bind fun t112 => ((lecternref21_Sum.f k a0 a1).bind fun t113 => (if t112 = t113 then ((score_Times.f k a0 a1).bind fun t114 => ((lecternref21_Times.f k a0 a1).bind fun t115 => (if t114 = t115 then ((score_Log.f k a0 a1).bind fun t116 => ((lecternref21_Log.f k a0 a1).bind fun t117 => (if t116 = t117 then ((score_Weight.f k a0 a2 a3 a4 a1).bind fun t118 => ((lecternref21_Weight.f k a0 a2 a3 a4 a1).bind fun t119 => (some (t118 == t119)))) else (some false)))) else (some false)))) else (some false)))) = some r := h
  clear h
  replace H := Option.bind_eq_some_iff.mp H
  obtain ⟨t112, A60, H⟩ := H
  replace H : ((lecternref21_Sum.f k a0 a1).bind fun t113 => (if t112 = t113 then ((score_Times.f k a0 a1).bind fun t114 => ((lecternref21_Times.f k a0 a1).bind fun t115 => (if t114 = t115 then ((score_Log.f k a0 a1).bind fun t116 => ((lecternref21_Log.f k a0 a1).bind fun t117 => (if t116 = t117 then ((score_Weight.f k a0 a2 a3 a4 a1).bind fun t118 => ((lecternref21_Weight.f k a0 a2 a3 a4 a1).bind fun t119 => (some (t118 == t119)))) else (some false)))) else (some false)))) else (some false))) = some r := H
  have A6 := Aside0.mk A60
  clear A60
  replace H := Option.bind_eq_some_iff.mp H
  obtain ⟨t113, A70, H⟩ := H
  replace H : (if t112 = t113 then ((score_Times.f k a0 a1).bind fun t114 => ((lecternref21_Times.f k a0 a1).bind fun t115 => (if t114 = t115 then ((score_Log.f k a0 a1).bind fun t116 => ((lecternref21_Log.f k a0 a1).bind fun t117 => (if t116 = t117 then ((score_Weight.f k a0 a2 a3 a4 a1).bind fun t118 => ((lecternref21_Weight.f k a0 a2 a3 a4 a1).bind fun t119 => (some (t118 == t119)))) else (some false)))) else (some false)))) else (some false)) = some r := H
  have A7 := Aside0.mk A70
  clear A70
  by_cases c8 : t112 = t113
  · rw [if_pos c8] at H
    have c8b0 : (t112 == t113) = true := beq_iff_eq.mpr c8
    have c8b1 : (t112 != t113) = false := bne_eq_false_iff_eq.mpr c8
    clear c8
    replace H := Option.bind_eq_some_iff.mp H
    obtain ⟨t114, A90, H⟩ := H
    replace H : ((lecternref21_Times.f k a0 a1).bind fun t115 => (if t114 = t115 then ((score_Log.f k a0 a1).bind fun t116 => ((lecternref21_Log.f k a0 a1).bind fun t117 => (if t116 = t117 then ((score_Weight.f k a0 a2 a3 a4 a1).bind fun t118 => ((lecternref21_Weight.f k a0 a2 a3 a4 a1).bind fun t119 => (some (t118 == t119)))) else (some false)))) else (some false))) = some r := H
    have A9 := Aside0.mk A90
    clear A90
    replace H := Option.bind_eq_some_iff.mp H
    obtain ⟨t115, A100, H⟩ := H
    replace H : (if t114 = t115 then ((score_Log.f k a0 a1).bind fun t116 => ((lecternref21_Log.f k a0 a1).bind fun t117 => (if t116 = t117 then ((score_Weight.f k a0 a2 a3 a4 a1).bind fun t118 => ((lecternref21_Weight.f k a0 a2 a3 a4 a1).bind fun t119 => (some (t118 == t119)))) else (some false)))) else (some false)) = some r := H
    have A10 := Aside0.mk A100
    clear A100
    by_cases c11 : t114 = t115
    · rw [if_pos c11] at H
      have c11b0 : (t114 == t115) = true := beq_iff_eq.mpr c11
      have c11b1 : (t114 != t115) = false := bne_eq_false_iff_eq.mpr c11
      clear c11
      replace H := Option.bind_eq_some_iff.mp H
      obtain ⟨t116, A120, H⟩ := H
      replace H : ((lecternref21_Log.f k a0 a1).bind fun t117 => (if t116 = t117 then ((score_Weight.f k a0 a2 a3 a4 a1).bind fun t118 => ((lecternref21_Weight.f k a0 a2 a3 a4 a1).bind fun t119 => (some (t118 == t119)))) else (some false))) = some r := H
      have A12 := Aside0.mk A120
      clear A120
      replace H := Option.bind_eq_some_iff.mp H
      obtain ⟨t117, A130, H⟩ := H
      replace H : (if t116 = t117 then ((score_Weight.f k a0 a2 a3 a4 a1).bind fun t118 => ((lecternref21_Weight.f k a0 a2 a3 a4 a1).bind fun t119 => (some (t118 == t119)))) else (some false)) = some r := H
      have A13 := Aside0.mk A130
      clear A130
      by_cases c14 : t116 = t117
      · rw [if_pos c14] at H
        have c14b0 : (t116 == t117) = true := beq_iff_eq.mpr c14
        have c14b1 : (t116 != t117) = false := bne_eq_false_iff_eq.mpr c14
        clear c14
        replace H := Option.bind_eq_some_iff.mp H
        obtain ⟨t118, A150, H⟩ := H
        replace H : ((lecternref21_Weight.f k a0 a2 a3 a4 a1).bind fun t119 => (some (t118 == t119))) = some r := H
        have A15 := Aside0.mk A150
        clear A150
        replace H := Option.bind_eq_some_iff.mp H
        obtain ⟨t119, A160, H⟩ := H
        replace H : (some (t118 == t119)) = some r := H
        have A16 := Aside0.mk A160
        clear A160
        obtain rfl := Option.some.inj H
        go_enter Try.func4, Try.ntmps4
        go_wp2_with (first | ((with_reducible refine gate_callee (f := 14) rfl ?_); refine goesL_ (some 13) rfl rfl Try.func14 (by kernel_rfl) rfl #[.int .i64 a0, .int .i64 a1] rfl (by (try simp only [List.map_toArray, List.map_cons, List.map_nil]); first | done | rfl | (simp only [List.length_drop, List.length_take]; rfl)) ?_; (with_reducible refine (score_Sum.calls k a0 a1 t112 _ A6.out).mono ?_); rintro e w' ⟨rfl, ⟨nd, rfl⟩⟩; refine ⟨_, rfl, ?_⟩) | ((with_reducible refine gate_callee (f := 15) rfl ?_); refine goesL_ (some 16) rfl rfl Try.func15 (by kernel_rfl) rfl #[.int .i64 a0, .int .i64 a1] rfl (by (try simp only [List.map_toArray, List.map_cons, List.map_nil]); first | done | rfl | (simp only [List.length_drop, List.length_take]; rfl)) ?_; (with_reducible refine (lecternref21_Sum.calls k a0 a1 t113 _ A7.out).mono ?_); rintro e w' ⟨rfl, ⟨nd, rfl⟩⟩; refine ⟨_, rfl, ?_⟩) | (go_at_call 16; (with_reducible refine (score_Times.calls k a0 a1 t114 _ A9.out).mono ?_); rintro e w' ⟨rfl, ⟨nd, rfl⟩⟩) | (go_at_call 17; (with_reducible refine (lecternref21_Times.calls k a0 a1 t115 _ A10.out).mono ?_); rintro e w' ⟨rfl, ⟨nd, rfl⟩⟩) | (go_at_call 18; (with_reducible refine (score_Log.calls k a0 a1 t116 _ A12.out).mono ?_); rintro e w' ⟨rfl, ⟨nd, rfl⟩⟩) | (go_at_call 19; (with_reducible refine (lecternref21_Log.calls k a0 a1 t117 _ A13.out).mono ?_); rintro e w' ⟨rfl, ⟨nd, rfl⟩⟩) | (go_at_call 20; (with_reducible refine (score_Weight.calls k a0 a2 a3 a4 a1 t118 _ A15.out).mono ?_); rintro e w' ⟨rfl, ⟨nd, rfl⟩⟩) | (go_at_call 21; (with_reducible refine (lecternref21_Weight.calls k a0 a2 a3 a4 a1 t119 _ A16.out).mono ?_); rintro e w' ⟨rfl, ⟨nd, rfl⟩⟩))
        go_ret
        exact ⟨by first | rfl | (simp; done) | (simp [*]; done), by repeat (first | exact Drawn0.refl _ | apply Drawn0.step)⟩
      · rw [if_neg c14] at H
        have c14b0 : (t116 == t117) = false := beq_eq_false_iff_ne.mpr c14
        have c14b1 : (t116 != t117) = true := bne_iff_ne.mpr c14
        obtain rfl := Option.some.inj H
        go_enter Try.func4, Try.ntmps4
        go_wp2_with (first | ((with_reducible refine gate_callee (f := 14) rfl ?_); refine goesL_ (some 13) rfl rfl Try.func14 (by kernel_rfl) rfl #[.int .i64 a0, .int .i64 a1] rfl (by (try simp only [List.map_toArray, List.map_cons, List.map_nil]); first | done | rfl | (simp only [List.length_drop, List.length_take]; rfl)) ?_; (with_reducible refine (score_Sum.calls k a0 a1 t112 _ A6.out).mono ?_); rintro e w' ⟨rfl, ⟨nd, rfl⟩⟩; refine ⟨_, rfl, ?_⟩) | ((with_reducible refine gate_callee (f := 15) rfl ?_); refine goesL_ (some 16) rfl rfl Try.func15 (by kernel_rfl) rfl #[.int .i64 a0, .int .i64 a1] rfl (by (try simp only [List.map_toArray, List.map_cons, List.map_nil]); first | done | rfl | (simp only [List.length_drop, List.length_take]; rfl)) ?_; (with_reducible refine (lecternref21_Sum.calls k a0 a1 t113 _ A7.out).mono ?_); rintro e w' ⟨rfl, ⟨nd, rfl⟩⟩; refine ⟨_, rfl, ?_⟩) | (go_at_call 16; (with_reducible refine (score_Times.calls k a0 a1 t114 _ A9.out).mono ?_); rintro e w' ⟨rfl, ⟨nd, rfl⟩⟩) | (go_at_call 17; (with_reducible refine (lecternref21_Times.calls k a0 a1 t115 _ A10.out).mono ?_); rintro e w' ⟨rfl, ⟨nd, rfl⟩⟩) | (go_at_call 18; (with_reducible refine (score_Log.calls k a0 a1 t116 _ A12.out).mono ?_); rintro e w' ⟨rfl, ⟨nd, rfl⟩⟩) | (go_at_call 19; (with_reducible refine (lecternref21_Log.calls k a0 a1 t117 _ A13.out).mono ?_); rintro e w' ⟨rfl, ⟨nd, rfl⟩⟩))
        go_ret
        exact ⟨by first | rfl | (simp; done) | (simp [*]; done), by repeat (first | exact Drawn0.refl _ | apply Drawn0.step)⟩
    · rw [if_neg c11] at H
      have c11b0 : (t114 == t115) = false := beq_eq_false_iff_ne.mpr c11
      have c11b1 : (t114 != t115) = true := bne_iff_ne.mpr c11
      obtain rfl := Option.some.inj H
      go_enter Try.func4, Try.ntmps4
      go_wp2_with (first | ((with_reducible refine gate_callee (f := 14) rfl ?_); refine goesL_ (some 13) rfl rfl Try.func14 (by kernel_rfl) rfl #[.int .i64 a0, .int .i64 a1] rfl (by (try simp only [List.map_toArray, List.map_cons, List.map_nil]); first | done | rfl | (simp only [List.length_drop, List.length_take]; rfl)) ?_; (with_reducible refine (score_Sum.calls k a0 a1 t112 _ A6.out).mono ?_); rintro e w' ⟨rfl, ⟨nd, rfl⟩⟩; refine ⟨_, rfl, ?_⟩) | ((with_reducible refine gate_callee (f := 15) rfl ?_); refine goesL_ (some 16) rfl rfl Try.func15 (by kernel_rfl) rfl #[.int .i64 a0, .int .i64 a1] rfl (by (try simp only [List.map_toArray, List.map_cons, List.map_nil]); first | done | rfl | (simp only [List.length_drop, List.length_take]; rfl)) ?_; (with_reducible refine (lecternref21_Sum.calls k a0 a1 t113 _ A7.out).mono ?_); rintro e w' ⟨rfl, ⟨nd, rfl⟩⟩; refine ⟨_, rfl, ?_⟩) | (go_at_call 16; (with_reducible refine (score_Times.calls k a0 a1 t114 _ A9.out).mono ?_); rintro e w' ⟨rfl, ⟨nd, rfl⟩⟩) | (go_at_call 17; (with_reducible refine (lecternref21_Times.calls k a0 a1 t115 _ A10.out).mono ?_); rintro e w' ⟨rfl, ⟨nd, rfl⟩⟩))
      go_ret
      exact ⟨by first | rfl | (simp; done) | (simp [*]; done), by repeat (first | exact Drawn0.refl _ | apply Drawn0.step)⟩
  · rw [if_neg c8] at H
    have c8b0 : (t112 == t113) = false := beq_eq_false_iff_ne.mpr c8
    have c8b1 : (t112 != t113) = true := bne_iff_ne.mpr c8
    obtain rfl := Option.some.inj H
    go_enter Try.func4, Try.ntmps4
    go_wp2_with (first | ((with_reducible refine gate_callee (f := 14) rfl ?_); refine goesL_ (some 13) rfl rfl Try.func14 (by kernel_rfl) rfl #[.int .i64 a0, .int .i64 a1] rfl (by (try simp only [List.map_toArray, List.map_cons, List.map_nil]); first | done | rfl | (simp only [List.length_drop, List.length_take]; rfl)) ?_; (with_reducible refine (score_Sum.calls k a0 a1 t112 _ A6.out).mono ?_); rintro e w' ⟨rfl, ⟨nd, rfl⟩⟩; refine ⟨_, rfl, ?_⟩) | ((with_reducible refine gate_callee (f := 15) rfl ?_); refine goesL_ (some 16) rfl rfl Try.func15 (by kernel_rfl) rfl #[.int .i64 a0, .int .i64 a1] rfl (by (try simp only [List.map_toArray, List.map_cons, List.map_nil]); first | done | rfl | (simp only [List.length_drop, List.length_take]; rfl)) ?_; (with_reducible refine (lecternref21_Sum.calls k a0 a1 t113 _ A7.out).mono ?_); rintro e w' ⟨rfl, ⟨nd, rfl⟩⟩; refine ⟨_, rfl, ?_⟩))
    go_ret
    exact ⟨by first | rfl | (simp; done) | (simp [*]; done), by repeat (first | exact Drawn0.refl _ | apply Drawn0.step)⟩

/-- THE ONE PURE STATEMENT of lecternlaw21_ScoreNumbers: yours. -/
def lecternlaw21_ScoreNumbers.Pure : Prop := ∀ (a0 : Int) (a1 : Int) (a2 : Int) (a3 : Int) (a4 : Int), (Lit.int .i64 a0).wf = true → (Lit.int .i64 a1).wf = true → (Lit.int .i64 a2).wf = true → (Lit.int .i64 a3).wf = true → (Lit.int .i64 a4).wf = true → ∃ k, lecternlaw21_ScoreNumbers.f k a0 a1 a2 a3 a4 = some true
theorem lecternlaw21_ScoreNumbers.walk (P : lecternlaw21_ScoreNumbers.Pure) (a0 : Int) (a1 : Int) (a2 : Int) (a3 : Int) (a4 : Int) (w : World) (w0 : (Lit.int .i64 a0).wf = true) (w1 : (Lit.int .i64 a1).wf = true) (w2 : (Lit.int .i64 a2).wf = true) (w3 : (Lit.int .i64 a3).wf = true) (w4 : (Lit.int .i64 a4).wf = true) :
    Calls Try.prog 4 #[.int .i64 a0, .int .i64 a1, .int .i64 a2, .int .i64 a3, .int .i64 a4] w fun e w' => e = .returned (.bool true) ∧ Below w.heap.size w w' := by
  obtain ⟨k, h⟩ := P a0 a1 a2 a3 a4 w0 w1 w2 w3 w4
  refine (lecternlaw21_ScoreNumbers.calls k a0 a1 a2 a3 a4 true w h).mono ?_
  rintro e w' ⟨rfl, hd⟩
  exact ⟨rfl, hd.below⟩

end Go.Proofs.Ytonolmddjifgjaa.PScore
