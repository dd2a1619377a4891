/- Printed by tools/more.py (a program of this session's own, over the print.py of the kit) out of the translation. -/
import Derived.Test.YtgkeemjadjnhkaaGreatDoorScore0
import Derived.Test.YtgkeemjadjnhkaaGreatDoorScore2
import Derived.Test.YtgkeemjadjnhkaaGreatDoorScore7
namespace Go.Proofs.YtgkeemjadjnhkaaGreatDoor.PScore
open Go.RowKit   Go.Proofs.YtgkeemjadjnhkaaGreatDoorW.PrintWords Go.Proofs.YtgkeemjadjnhkaaGreatDoorW.PrintLast Go.Proofs.YtgkeemjadjnhkaaGreatDoorW.PrintMore
attribute [local go_sem] max2_int min2_int max_two min_two max_three min_three max_four min_four   -- for this text's walks alone
set_option linter.unusedVariables false
set_option linter.unusedSimpArgs false

/-! ### score_Weight: function 6 -/
def score_Weight.j0 : Nat → Int → Int → Int → Int → Int → Bool → Option (Int)
  | 0, _, _, _, _, _, _ => none
  | k + 1, x0, x1, x2, x3, x4, x53 => if x53 = true then (some 0) else (if (IntKind.u64.wrap (10 * (IntKind.u64.wrap (x4)))) = 0 then (none) else ((bits_Mul64.f (IntKind.u64.wrap (22 * (IntKind.u64.wrap (x0)))) (IntKind.u64.wrap (65536 * (IntKind.u64.wrap (x1))))).bind fun bt107 => ((bits_Div64.f k bt107.1 bt107.2 (IntKind.u64.wrap (10 * (IntKind.u64.wrap ((IntKind.u64.wrap (65536 * (IntKind.u64.wrap (x1)))) + (IntKind.u64.wrap (Int.tdiv (IntKind.u64.wrap (65536 * (IntKind.u64.wrap ((IntKind.u64.wrap (3 * (IntKind.u64.wrap (x4)))) + (IntKind.u64.wrap ((IntKind.u64.wrap (9 * (IntKind.u64.wrap (x2)))) * (IntKind.u64.wrap (x3)))))))) (IntKind.u64.wrap (10 * (IntKind.u64.wrap (x4))))))))))).bind fun bt109 => (some (wrap64 (bt109.1))))))
def score_Weight.f (k : Nat) (a0 : Int) (a1 : Int) (a2 : Int) (a3 : Int) (a4 : Int) : Option (Int) := if a0 < 0 then (score_Weight.j0 k a0 a1 a2 a3 a4 true) else (if a0 > 1099511627776 then (score_Weight.j0 k a0 a1 a2 a3 a4 true) else (if a1 < 1 then (score_Weight.j0 k a0 a1 a2 a3 a4 true) else (if a1 > 1048576 then (score_Weight.j0 k a0 a1 a2 a3 a4 true) else (if a2 < 1 then (score_Weight.j0 k a0 a1 a2 a3 a4 true) else (if a2 > 1048576 then (score_Weight.j0 k a0 a1 a2 a3 a4 true) else (if a3 < 1 then (score_Weight.j0 k a0 a1 a2 a3 a4 true) else (if a3 > 1048576 then (score_Weight.j0 k a0 a1 a2 a3 a4 true) else (if a4 < 1 then (score_Weight.j0 k a0 a1 a2 a3 a4 true) else (score_Weight.j0 k a0 a1 a2 a3 a4 (decide (a4 > 1099511627776)))))))))))
theorem score_Weight.mono_l : ∀ k, (∀ y0 y1 y2 y3 y4 y5, LeO (score_Weight.j0 k y0 y1 y2 y3 y4 y5) (score_Weight.j0 (k + 1) y0 y1 y2 y3 y4 y5))
  | 0 => fun _ _ _ _ _ _ r h => by simp [score_Weight.j0] at h
  | k + 1 => by
    have ih0 := score_Weight.mono_l k
    · intro y0 y1 y2 y3 y4 y5
      unfold score_Weight.j0
      repeat' first
      | (with_reducible exact ih0 _ _ _ _ _ _)
      | (with_reducible exact bits_Div64.mono _ _ _ _)
      | (with_reducible exact LeO.refl _)
      | (with_reducible exact LeO.none _)
      | (with_reducible refine LeO.ite ?_ ?_)
      | (with_reducible refine LeO.bind ?_ (fun _ => ?_))
      | exact ih0 _ _ _ _ _ _
      | exact bits_Div64.mono _ _ _ _
      | exact LeO.none _
      | refine LeO.ite ?_ ?_
      | refine LeO.bind ?_ (fun _ => ?_)
theorem score_Weight.mono : ∀ a0 a1 a2 a3 a4 k, LeO (score_Weight.f k a0 a1 a2 a3 a4) (score_Weight.f (k + 1) a0 a1 a2 a3 a4) := by
  intro a0 a1 a2 a3 a4 k
  have ih0 := score_Weight.mono_l k
  unfold score_Weight.f
  repeat' first
      | (with_reducible exact ih0 _ _ _ _ _ _)
      | (with_reducible exact bits_Div64.mono _ _ _ _)
      | (with_reducible exact LeO.refl _)
      | (with_reducible exact LeO.none _)
      | (with_reducible refine LeO.ite ?_ ?_)
      | (with_reducible refine LeO.bind ?_ (fun _ => ?_))
      | exact ih0 _ _ _ _ _ _
      | exact bits_Div64.mono _ _ _ _
      | exact LeO.none _
      | refine LeO.ite ?_ ?_
      | refine LeO.bind ?_ (fun _ => ?_)
set_option maxHeartbeats 8000000 in
set_option maxRecDepth 100000 in
theorem score_Weight.calls (k : Nat) (a0 : Int) (a1 : Int) (a2 : Int) (a3 : Int) (a4 : Int) (r : Int) (w : World) (h : score_Weight.f k a0 a1 a2 a3 a4 = some r) :
    Calls Tryz.prog 6 #[.int .i64 a0, .int .i64 a1, .int .i64 a2, .int .i64 a3, .int .i64 a4] w fun e w' => e = .returned (.int .i64 r) ∧ Drawn0 w w' := by
  have H : (if a0 < 0 then (score_Weight.j0 k a0 a1 a2 a3 a4 true) else (if a0 > 1099511627776 then (score_Weight.j0 k a0 a1 a2 a3 a4 true) else (if a1 < 1 then (score_Weight.j0 k a0 a1 a2 a3 a4 true) else (if a1 > 1048576 then (score_Weight.j0 k a0 a1 a2 a3 a4 true) else (if a2 < 1 then (score_Weight.j0 k a0 a1 a2 a3 a4 true) else (if a2 > 1048576 then (score_Weight.j0 k a0 a1 a2 a3 a4 true) else (if a3 < 1 then (score_Weight.j0 k a0 a1 a2 a3 a4 true) else (if a3 > 1048576 then (score_Weight.j0 k a0 a1 a2 a3 a4 true) else (if a4 < 1 then (score_Weight.j0 k a0 a1 a2 a3 a4 true) else (score_Weight.j0 k a0 a1 a2 a3 a4 (decide (a4 > 1099511627776)))))))))))) = some r := h
  clear h
  have HC6 := Aside0.mk H
  clear H
  go_enter Tryz.func6, Tryz.ntmps6
  go_upto_region 1 with (fail)
  go_cut [53] (fun v53 wc => ∃ (kq : Nat) (x53_5 : Bool), v53 = .bool x53_5 ∧ Aside0 (score_Weight.j0 kq a0 a1 a2 a3 a4 x53_5 = some r) ∧ Aside0 (kq ≤ k) ∧ Drawn0 w wc)
  case first =>
    have H := HC6.out
    clear HC6
    by_cases c7 : a0 < 0
    · rw [if_pos c7] at H
      have c7b0 : decide (a0 < 0) = true := decide_eq_true c7
      clear c7
      (first | rw [c7b0] | (simp only [i64_w, i32_w]; rw [c7b0]) | skip)
      have H' := Aside0.mk H
      clear H
      go_wp2
      go_meet
      case rel => exact ⟨_, (true), (by first | rfl | (simp; done) | (simp [*]; done)), H', ⟨by first | omega | exact Nat.le_refl _⟩, by repeat (first | exact Drawn0.refl _ | apply Drawn0.step)⟩
    · rw [if_neg c7] at H
      have c7b0 : decide (a0 < 0) = false := decide_eq_false c7
      clear c7
      (first | rw [c7b0] | (simp only [i64_w, i32_w]; rw [c7b0]) | skip)
      by_cases c8 : a0 > 1099511627776
      · rw [if_pos c8] at H
        have c8b0 : decide (1099511627776 < a0) = true := decide_eq_true c8
        clear c8
        have H' := Aside0.mk H
        clear H
        go_wp2
        go_meet
        case rel => exact ⟨_, (true), (by first | rfl | (simp; done) | (simp [*]; done)), H', ⟨by first | omega | exact Nat.le_refl _⟩, by repeat (first | exact Drawn0.refl _ | apply Drawn0.step)⟩
      · rw [if_neg c8] at H
        have c8b0 : decide (1099511627776 < a0) = false := decide_eq_false c8
        clear c8
        by_cases c9 : a1 < 1
        · rw [if_pos c9] at H
          have c9b0 : decide (a1 < 1) = true := decide_eq_true c9
          clear c9
          have H' := Aside0.mk H
          clear H
          go_wp2
          go_meet
          case rel => exact ⟨_, (true), (by first | rfl | (simp; done) | (simp [*]; done)), H', ⟨by first | omega | exact Nat.le_refl _⟩, by repeat (first | exact Drawn0.refl _ | apply Drawn0.step)⟩
        · rw [if_neg c9] at H
          have c9b0 : decide (a1 < 1) = false := decide_eq_false c9
          clear c9
          by_cases c10 : a1 > 1048576
          · rw [if_pos c10] at H
            have c10b0 : decide (1048576 < a1) = true := decide_eq_true c10
            clear c10
            have H' := Aside0.mk H
            clear H
            go_wp2
            go_meet
            case rel => exact ⟨_, (true), (by first | rfl | (simp; done) | (simp [*]; done)), H', ⟨by first | omega | exact Nat.le_refl _⟩, by repeat (first | exact Drawn0.refl _ | apply Drawn0.step)⟩
          · rw [if_neg c10] at H
            have c10b0 : decide (1048576 < a1) = false := decide_eq_false c10
            clear c10
            by_cases c11 : a2 < 1
            · rw [if_pos c11] at H
              have c11b0 : decide (a2 < 1) = true := decide_eq_true c11
              clear c11
              have H' := Aside0.mk H
              clear H
              go_wp2
              go_meet
              case rel => exact ⟨_, (true), (by first | rfl | (simp; done) | (simp [*]; done)), H', ⟨by first | omega | exact Nat.le_refl _⟩, by repeat (first | exact Drawn0.refl _ | apply Drawn0.step)⟩
            · rw [if_neg c11] at H
              have c11b0 : decide (a2 < 1) = false := decide_eq_false c11
              clear c11
              by_cases c12 : a2 > 1048576
              · rw [if_pos c12] at H
                have c12b0 : decide (1048576 < a2) = true := decide_eq_true c12
                clear c12
                have H' := Aside0.mk H
                clear H
                go_wp2
                go_meet
                case rel => exact ⟨_, (true), (by first | rfl | (simp; done) | (simp [*]; done)), H', ⟨by first | omega | exact Nat.le_refl _⟩, by repeat (first | exact Drawn0.refl _ | apply Drawn0.step)⟩
              · rw [if_neg c12] at H
                have c12b0 : decide (1048576 < a2) = false := decide_eq_false c12
                clear c12
                by_cases c13 : a3 < 1
                · rw [if_pos c13] at H
                  have c13b0 : decide (a3 < 1) = true := decide_eq_true c13
                  clear c13
                  have H' := Aside0.mk H
                  clear H
                  go_wp2
                  go_meet
                  case rel => exact ⟨_, (true), (by first | rfl | (simp; done) | (simp [*]; done)), H', ⟨by first | omega | exact Nat.le_refl _⟩, by repeat (first | exact Drawn0.refl _ | apply Drawn0.step)⟩
                · rw [if_neg c13] at H
                  have c13b0 : decide (a3 < 1) = false := decide_eq_false c13
                  clear c13
                  by_cases c14 : a3 > 1048576
                  · rw [if_pos c14] at H
                    have c14b0 : decide (1048576 < a3) = true := decide_eq_true c14
                    clear c14
                    have H' := Aside0.mk H
                    clear H
                    go_wp2
                    go_meet
                    case rel => exact ⟨_, (true), (by first | rfl | (simp; done) | (simp [*]; done)), H', ⟨by first | omega | exact Nat.le_refl _⟩, by repeat (first | exact Drawn0.refl _ | apply Drawn0.step)⟩
                  · rw [if_neg c14] at H
                    have c14b0 : decide (1048576 < a3) = false := decide_eq_false c14
                    clear c14
                    by_cases c15 : a4 < 1
                    · rw [if_pos c15] at H
                      have c15b0 : decide (a4 < 1) = true := decide_eq_true c15
                      clear c15
                      have H' := Aside0.mk H
                      clear H
                      go_wp2
                      go_meet
                      case rel => exact ⟨_, (true), (by first | rfl | (simp; done) | (simp [*]; done)), H', ⟨by first | omega | exact Nat.le_refl _⟩, by repeat (first | exact Drawn0.refl _ | apply Drawn0.step)⟩
                    · rw [if_neg c15] at H
                      have c15b0 : decide (a4 < 1) = false := decide_eq_false c15
                      clear c15
                      have H' := Aside0.mk H
                      clear H
                      go_wp2
                      go_meet
                      case rel => exact ⟨_, (decide (a4 > 1099511627776)), (by first | rfl | (simp; done) | (simp [*]; done)), H', ⟨by first | omega | exact Nat.le_refl _⟩, by repeat (first | exact Drawn0.refl _ | apply Drawn0.step)⟩
  case rest =>
    clear HC6
    try clear c1
    try clear p2
    try clear c6
    try clear c7
    try clear c7b0
    try clear c8
    try clear c8b0
    try clear c9
    try clear c9b0
    try clear c10
    try clear c10b0
    try clear c11
    try clear c11b0
    try clear c12
    try clear c12b0
    try clear c13
    try clear c13b0
    try clear c14
    try clear c14b0
    try clear c15
    try clear c15b0
    obtain ⟨kq, x53_5, rfl, HA, HJ5, ⟨mc5, rfl⟩⟩ := hcut
    cases kq with
    | zero => exact absurd HA.out (by simp [score_Weight.j0])
    | succ kj5 =>
      have H := HA.out
      clear HA
      simp only [score_Weight.j0] at H
      by_cases c16 : x53_5 = true
      · subst c16
        have H1 : (some 0) = some r := by rw [if_pos rfl] at H; exact H
        clear H
        have H := H1
        clear H1
        obtain rfl := Option.some.inj H
        go_wp2
        go_ret
        exact ⟨by first | rfl | (simp; done) | (simp [*]; done), by repeat (first | exact Drawn0.refl _ | apply Drawn0.step)⟩
      · replace c16 := Bool.eq_false_iff.mpr c16
        subst c16
        have H1 : (if (IntKind.u64.wrap (10 * (IntKind.u64.wrap (a4)))) = 0 then (none) else ((bits_Mul64.f (IntKind.u64.wrap (22 * (IntKind.u64.wrap (a0)))) (IntKind.u64.wrap (65536 * (IntKind.u64.wrap (a1))))).bind fun bt107 => ((bits_Div64.f kj5 bt107.1 bt107.2 (IntKind.u64.wrap (10 * (IntKind.u64.wrap ((IntKind.u64.wrap (65536 * (IntKind.u64.wrap (a1)))) + (IntKind.u64.wrap (Int.tdiv (IntKind.u64.wrap (65536 * (IntKind.u64.wrap ((IntKind.u64.wrap (3 * (IntKind.u64.wrap (a4)))) + (IntKind.u64.wrap ((IntKind.u64.wrap (9 * (IntKind.u64.wrap (a2)))) * (IntKind.u64.wrap (a3)))))))) (IntKind.u64.wrap (10 * (IntKind.u64.wrap (a4))))))))))).bind fun bt109 => (some (wrap64 (bt109.1)))))) = some r := by rw [if_neg (show ¬ (false = true) by decide)] at H; exact H
        clear H
        have H := H1
        clear H1
        by_cases c17 : (IntKind.u64.wrap (10 * (IntKind.u64.wrap (a4)))) = 0
        · rw [if_pos c17] at H
          exact absurd H (by simp)
        · rw [if_neg c17] at H
          have c17b0 : ((IntKind.u64.wrap (10 * (IntKind.u64.wrap (a4)))) == 0) = false := beq_eq_false_iff_ne.mpr c17
          have c17b1 : ((IntKind.u64.wrap (10 * (IntKind.u64.wrap (a4)))) != 0) = true := bne_iff_ne.mpr c17
          replace H := Option.bind_eq_some_iff.mp H
          obtain ⟨⟨t107, t108⟩, A180, H⟩ := H
          replace H : ((bits_Div64.f kj5 t107 t108 (IntKind.u64.wrap (10 * (IntKind.u64.wrap ((IntKind.u64.wrap (65536 * (IntKind.u64.wrap (a1)))) + (IntKind.u64.wrap (Int.tdiv (IntKind.u64.wrap (65536 * (IntKind.u64.wrap ((IntKind.u64.wrap (3 * (IntKind.u64.wrap (a4)))) + (IntKind.u64.wrap ((IntKind.u64.wrap (9 * (IntKind.u64.wrap (a2)))) * (IntKind.u64.wrap (a3)))))))) (IntKind.u64.wrap (10 * (IntKind.u64.wrap (a4))))))))))).bind fun bt109 => (some (wrap64 (bt109.1)))) = some r := H
          have A18 := Aside0.mk A180
          clear A180
          replace H := Option.bind_eq_some_iff.mp H
          obtain ⟨⟨t109, t110⟩, A190, H⟩ := H
          replace H : (some (wrap64 (t109))) = some r := H
          have A19 := Aside0.mk A190
          clear A190
          obtain rfl := Option.some.inj H
          go_wp2_with (first | ((with_reducible refine gate_callee (f := 14) rfl ?_); refine goesL_ (some 76) rfl rfl Tryz.func14 (by kernel_rfl) rfl #[.int .u64 (IntKind.u64.wrap (22 * (IntKind.u64.wrap (a0)))), .int .u64 (IntKind.u64.wrap (65536 * (IntKind.u64.wrap (a1))))] rfl (by (try simp only [List.map_toArray, List.map_cons, List.map_nil]); first | done | rfl | (simp only [List.length_drop, List.length_take]; rfl)) ?_; (with_reducible refine (bits_Mul64.calls (IntKind.u64.wrap (22 * (IntKind.u64.wrap (a0)))) (IntKind.u64.wrap (65536 * (IntKind.u64.wrap (a1)))) t107 t108 _ A18.out).mono ?_); rintro e w' ⟨rfl, ⟨nd, rfl⟩⟩; refine ⟨_, rfl, ?_⟩) | ((with_reducible refine gate_callee (f := 15) rfl ?_); refine goesL_ (some 88) rfl rfl Tryz.func15 (by kernel_rfl) rfl #[.int .u64 t107, .int .u64 t108, .int .u64 (IntKind.u64.wrap (10 * (IntKind.u64.wrap ((IntKind.u64.wrap (65536 * (IntKind.u64.wrap (a1)))) + (IntKind.u64.wrap (Int.tdiv (IntKind.u64.wrap (65536 * (IntKind.u64.wrap ((IntKind.u64.wrap (3 * (IntKind.u64.wrap (a4)))) + (IntKind.u64.wrap ((IntKind.u64.wrap (9 * (IntKind.u64.wrap (a2)))) * (IntKind.u64.wrap (a3)))))))) (IntKind.u64.wrap (10 * (IntKind.u64.wrap (a4))))))))))] rfl (by (try simp only [List.map_toArray, List.map_cons, List.map_nil]); first | done | rfl | (simp only [List.length_drop, List.length_take]; rfl)) ?_; (with_reducible refine (bits_Div64.calls kj5 t107 t108 (IntKind.u64.wrap (10 * (IntKind.u64.wrap ((IntKind.u64.wrap (65536 * (IntKind.u64.wrap (a1)))) + (IntKind.u64.wrap (Int.tdiv (IntKind.u64.wrap (65536 * (IntKind.u64.wrap ((IntKind.u64.wrap (3 * (IntKind.u64.wrap (a4)))) + (IntKind.u64.wrap ((IntKind.u64.wrap (9 * (IntKind.u64.wrap (a2)))) * (IntKind.u64.wrap (a3)))))))) (IntKind.u64.wrap (10 * (IntKind.u64.wrap (a4)))))))))) t109 t110 _ A19.out).mono ?_); rintro e w' ⟨rfl, ⟨nd, rfl⟩⟩; refine ⟨_, rfl, ?_⟩))
          go_ret
          exact ⟨by first | rfl | (simp; done) | (simp [*]; done), by repeat (first | exact Drawn0.refl _ | apply Drawn0.step)⟩

end Go.Proofs.YtgkeemjadjnhkaaGreatDoor.PScore
