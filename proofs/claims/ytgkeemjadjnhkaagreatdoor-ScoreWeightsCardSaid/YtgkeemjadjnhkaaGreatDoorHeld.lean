/- The walks of ScoreHeld and ScoreWeights: printed by tools/more.py (a program of this session's own, over the print.py of the kit), turned by tools/known.py: 'known' is the closed computation (its own text). -/
import Derived.Test.YtgkeemjadjnhkaaGreatDoorKnown
import Derived.Test.YtgkeemjadjnhkaaGreatDoorScore0
import Derived.Test.YtgkeemjadjnhkaaGreatDoorScore1
import Derived.Test.YtgkeemjadjnhkaaGreatDoorScore2
import Derived.Test.YtgkeemjadjnhkaaGreatDoorScore3
import Derived.Test.YtgkeemjadjnhkaaGreatDoorScore4
import Derived.Test.YtgkeemjadjnhkaaGreatDoorScore5
import Derived.Test.YtgkeemjadjnhkaaGreatDoorScore6
import Derived.Test.YtgkeemjadjnhkaaGreatDoorScore7
import Derived.Test.YtgkeemjadjnhkaaGreatDoorScore8
namespace Go.Proofs.YtgkeemjadjnhkaaGreatDoor.PScore
open Go.RowKit Go.Proofs.YtgkeemjadjnhkaaGreatDoorW.PrintWords Go.Proofs.YtgkeemjadjnhkaaGreatDoorW.PrintLast Go.Proofs.YtgkeemjadjnhkaaGreatDoorW.PrintMore
attribute [local go_sem] max2_int min2_int max_two min_two max_three min_three max_four min_four   -- for this text's walks alone
set_option linter.unusedVariables false
set_option linter.unusedSimpArgs false

/-- The world is an elder one below its end. -/
def Kn (w w' : World) : Prop := Below w.heap.size w w'
theorem Kn.refl (w : World) : Kn w w := Below.refl _ _
theorem Kn.step {w w' : World} (h : Kn w w') (n : Nat) : Kn w (w'.drewN n) := by
  induction n with
  | zero => exact h
  | succ n ih => rw [← World.drew_drewN]; exact Below.drew ih
def lecternlaw21_known.f : Option (Bool) := some true
/-- The table of math/bits lies in the world. -/
def HasTab (w : World) : Prop := ∃ arr e fr, w.heap[2]? = some (.cells arr e fr) ∧ arr.toList = tab
theorem lecternlaw21_known.calls (r : Bool) (w : World) (hT : HasTab w) (h : lecternlaw21_known.f = some r) :
    Calls Tryz.prog 5 #[] w fun e w' => e = .returned (.bool r) ∧ Below w.heap.size w w' := by
  obtain rfl := Option.some.inj h
  exact known_calls w hT

/-! ### lecternlaw21_ScoreHeld: function 4 -/
mutual
def lecternlaw21_ScoreHeld.j0 : Nat → Int → Int → Int → Bool → Option (Bool)
  | 0, _, _, _, _ => none
  | k + 1, x0, x1, x6, x44 => if x44 = true then (some false) else (if x0 > 0 then (if x1 > 0 then (if x6 ≤ 0 then (lecternlaw21_ScoreHeld.j1 k x0 true) else (if x1 < 0 then (if x6 ≥ 0 then (lecternlaw21_ScoreHeld.j1 k x0 true) else (if x0 = 0 then (lecternlaw21_ScoreHeld.j1 k x0 (x6 != 0)) else (if x1 = 0 then (lecternlaw21_ScoreHeld.j1 k x0 (x6 != 0)) else (lecternlaw21_ScoreHeld.j1 k x0 false)))) else (if x0 < 0 then (if x6 ≥ 0 then (lecternlaw21_ScoreHeld.j1 k x0 true) else (if x0 = 0 then (lecternlaw21_ScoreHeld.j1 k x0 (x6 != 0)) else (if x1 = 0 then (lecternlaw21_ScoreHeld.j1 k x0 (x6 != 0)) else (lecternlaw21_ScoreHeld.j1 k x0 false)))) else (if x0 = 0 then (lecternlaw21_ScoreHeld.j1 k x0 (x6 != 0)) else (if x1 = 0 then (lecternlaw21_ScoreHeld.j1 k x0 (x6 != 0)) else (lecternlaw21_ScoreHeld.j1 k x0 false)))))) else (if x0 < 0 then (if x1 < 0 then (if x6 ≤ 0 then (lecternlaw21_ScoreHeld.j1 k x0 true) else (if x6 ≥ 0 then (lecternlaw21_ScoreHeld.j1 k x0 true) else (if x0 = 0 then (lecternlaw21_ScoreHeld.j1 k x0 (x6 != 0)) else (if x1 = 0 then (lecternlaw21_ScoreHeld.j1 k x0 (x6 != 0)) else (lecternlaw21_ScoreHeld.j1 k x0 false))))) else (if x0 = 0 then (lecternlaw21_ScoreHeld.j1 k x0 (x6 != 0)) else (if x1 = 0 then (lecternlaw21_ScoreHeld.j1 k x0 (x6 != 0)) else (lecternlaw21_ScoreHeld.j1 k x0 false)))) else (if x1 < 0 then (if x6 ≥ 0 then (lecternlaw21_ScoreHeld.j1 k x0 true) else (if x0 = 0 then (lecternlaw21_ScoreHeld.j1 k x0 (x6 != 0)) else (if x1 = 0 then (lecternlaw21_ScoreHeld.j1 k x0 (x6 != 0)) else (lecternlaw21_ScoreHeld.j1 k x0 false)))) else (if x0 = 0 then (lecternlaw21_ScoreHeld.j1 k x0 (x6 != 0)) else (if x1 = 0 then (lecternlaw21_ScoreHeld.j1 k x0 (x6 != 0)) else (lecternlaw21_ScoreHeld.j1 k x0 false)))))) else (if x0 < 0 then (if x1 < 0 then (if x6 ≤ 0 then (lecternlaw21_ScoreHeld.j1 k x0 true) else (if x1 > 0 then (if x6 ≥ 0 then (lecternlaw21_ScoreHeld.j1 k x0 true) else (if x0 = 0 then (lecternlaw21_ScoreHeld.j1 k x0 (x6 != 0)) else (if x1 = 0 then (lecternlaw21_ScoreHeld.j1 k x0 (x6 != 0)) else (lecternlaw21_ScoreHeld.j1 k x0 false)))) else (if x0 = 0 then (lecternlaw21_ScoreHeld.j1 k x0 (x6 != 0)) else (if x1 = 0 then (lecternlaw21_ScoreHeld.j1 k x0 (x6 != 0)) else (lecternlaw21_ScoreHeld.j1 k x0 false))))) else (if x1 > 0 then (if x6 ≥ 0 then (lecternlaw21_ScoreHeld.j1 k x0 true) else (if x0 = 0 then (lecternlaw21_ScoreHeld.j1 k x0 (x6 != 0)) else (if x1 = 0 then (lecternlaw21_ScoreHeld.j1 k x0 (x6 != 0)) else (lecternlaw21_ScoreHeld.j1 k x0 false)))) else (if x0 = 0 then (lecternlaw21_ScoreHeld.j1 k x0 (x6 != 0)) else (if x1 = 0 then (lecternlaw21_ScoreHeld.j1 k x0 (x6 != 0)) else (lecternlaw21_ScoreHeld.j1 k x0 false))))) else (if x0 = 0 then (lecternlaw21_ScoreHeld.j1 k x0 (x6 != 0)) else (if x1 = 0 then (lecternlaw21_ScoreHeld.j1 k x0 (x6 != 0)) else (lecternlaw21_ScoreHeld.j1 k x0 false)))))
def lecternlaw21_ScoreHeld.j1 : Nat → Int → Bool → Option (Bool)
  | 0, _, _ => none
  | k + 1, x0, x94 => if x94 = true then (some false) else ((score_Times.f k x0 1).bind fun t724 => (if t724 = x0 then ((score_Sum.f k x0 0).bind fun t725 => (some (t725 == x0))) else (some false)))
end
def lecternlaw21_ScoreHeld.f (k : Nat) (a0 : Int) (a1 : Int) : Option (Bool) := (lecternlaw21_known.f).bind fun t713 => (if t713 = true then ((score_Sum.f k a0 a1).bind fun t714 => ((score_Times.f k a0 a1).bind fun t715 => (if a1 ≥ 0 then (if t714 < a0 then (lecternlaw21_ScoreHeld.j0 k a0 a1 t715 true) else (if a1 ≤ 0 then (if t714 > a0 then (lecternlaw21_ScoreHeld.j0 k a0 a1 t715 true) else ((score_Sum.f k a1 a0).bind fun t716 => (if t714 = t716 then ((score_Times.f k a1 a0).bind fun t717 => (lecternlaw21_ScoreHeld.j0 k a0 a1 t715 (t715 != t717))) else (lecternlaw21_ScoreHeld.j0 k a0 a1 t715 true)))) else ((score_Sum.f k a1 a0).bind fun t718 => (if t714 = t718 then ((score_Times.f k a1 a0).bind fun t719 => (lecternlaw21_ScoreHeld.j0 k a0 a1 t715 (t715 != t719))) else (lecternlaw21_ScoreHeld.j0 k a0 a1 t715 true))))) else (if a1 ≤ 0 then (if t714 > a0 then (lecternlaw21_ScoreHeld.j0 k a0 a1 t715 true) else ((score_Sum.f k a1 a0).bind fun t720 => (if t714 = t720 then ((score_Times.f k a1 a0).bind fun t721 => (lecternlaw21_ScoreHeld.j0 k a0 a1 t715 (t715 != t721))) else (lecternlaw21_ScoreHeld.j0 k a0 a1 t715 true)))) else ((score_Sum.f k a1 a0).bind fun t722 => (if t714 = t722 then ((score_Times.f k a1 a0).bind fun t723 => (lecternlaw21_ScoreHeld.j0 k a0 a1 t715 (t715 != t723))) else (lecternlaw21_ScoreHeld.j0 k a0 a1 t715 true))))))) else (some false))
theorem lecternlaw21_ScoreHeld.mono_l : ∀ k, (∀ y0 y1 y2 y3, LeO (lecternlaw21_ScoreHeld.j0 k y0 y1 y2 y3) (lecternlaw21_ScoreHeld.j0 (k + 1) y0 y1 y2 y3)) ∧ (∀ y0 y1, LeO (lecternlaw21_ScoreHeld.j1 k y0 y1) (lecternlaw21_ScoreHeld.j1 (k + 1) y0 y1))
  | 0 => ⟨fun _ _ _ _ r h => by simp [lecternlaw21_ScoreHeld.j0] at h, fun _ _ r h => by simp [lecternlaw21_ScoreHeld.j1] at h⟩
  | k + 1 => by
    obtain ⟨ih0, ih1⟩ := lecternlaw21_ScoreHeld.mono_l k
    refine ⟨?_, ?_⟩
    · intro y0 y1 y2 y3
      unfold lecternlaw21_ScoreHeld.j0
      repeat' first
      | (with_reducible exact ih0 _ _ _ _)
      | (with_reducible exact ih1 _ _)
      | (with_reducible exact score_Sum.mono _ _ _)
      | (with_reducible exact score_Times.mono _ _ _)
      | (with_reducible exact LeO.refl _)
      | (with_reducible exact LeO.none _)
      | (with_reducible refine LeO.ite ?_ ?_)
      | (with_reducible refine LeO.bind ?_ (fun _ => ?_))
      | exact ih0 _ _ _ _
      | exact ih1 _ _
      | exact score_Sum.mono _ _ _
      | exact score_Times.mono _ _ _
      | exact LeO.none _
      | refine LeO.ite ?_ ?_
      | refine LeO.bind ?_ (fun _ => ?_)
    · intro y0 y1
      unfold lecternlaw21_ScoreHeld.j1
      repeat' first
      | (with_reducible exact ih0 _ _ _ _)
      | (with_reducible exact ih1 _ _)
      | (with_reducible exact score_Sum.mono _ _ _)
      | (with_reducible exact score_Times.mono _ _ _)
      | (with_reducible exact LeO.refl _)
      | (with_reducible exact LeO.none _)
      | (with_reducible refine LeO.ite ?_ ?_)
      | (with_reducible refine LeO.bind ?_ (fun _ => ?_))
      | exact ih0 _ _ _ _
      | exact ih1 _ _
      | exact score_Sum.mono _ _ _
      | exact score_Times.mono _ _ _
      | exact LeO.none _
      | refine LeO.ite ?_ ?_
      | refine LeO.bind ?_ (fun _ => ?_)
theorem lecternlaw21_ScoreHeld.mono : ∀ a0 a1 k, LeO (lecternlaw21_ScoreHeld.f k a0 a1) (lecternlaw21_ScoreHeld.f (k + 1) a0 a1) := by
  intro a0 a1 k
  obtain ⟨ih0, ih1⟩ := lecternlaw21_ScoreHeld.mono_l k
  unfold lecternlaw21_ScoreHeld.f
  repeat' first
      | (with_reducible exact ih0 _ _ _ _)
      | (with_reducible exact ih1 _ _)
      | (with_reducible exact score_Sum.mono _ _ _)
      | (with_reducible exact score_Times.mono _ _ _)
      | (with_reducible exact LeO.refl _)
      | (with_reducible exact LeO.none _)
      | (with_reducible refine LeO.ite ?_ ?_)
      | (with_reducible refine LeO.bind ?_ (fun _ => ?_))
      | exact ih0 _ _ _ _
      | exact ih1 _ _
      | exact score_Sum.mono _ _ _
      | exact score_Times.mono _ _ _
      | exact LeO.none _
      | refine LeO.ite ?_ ?_
      | refine LeO.bind ?_ (fun _ => ?_)
set_option maxHeartbeats 8000000 in
set_option maxRecDepth 100000 in
theorem lecternlaw21_ScoreHeld.calls (k : Nat) (a0 : Int) (a1 : Int) (r : Bool) (w : World) (hT : HasTab w) (h : lecternlaw21_ScoreHeld.f k a0 a1 = some r) :
    Calls Tryz.prog 4 #[.int .i64 a0, .int .i64 a1] w fun e w' => e = .returned (.bool r) ∧ Kn w w' := by
  have H : ((lecternlaw21_known.f).bind fun t713 => (if t713 = true then ((score_Sum.f k a0 a1).bind fun t714 => ((score_Times.f k a0 a1).bind fun t715 => (if a1 ≥ 0 then (if t714 < a0 then (lecternlaw21_ScoreHeld.j0 k a0 a1 t715 true) else (if a1 ≤ 0 then (if t714 > a0 then (lecternlaw21_ScoreHeld.j0 k a0 a1 t715 true) else ((score_Sum.f k a1 a0).bind fun t716 => (if t714 = t716 then ((score_Times.f k a1 a0).bind fun t717 => (lecternlaw21_ScoreHeld.j0 k a0 a1 t715 (t715 != t717))) else (lecternlaw21_ScoreHeld.j0 k a0 a1 t715 true)))) else ((score_Sum.f k a1 a0).bind fun t718 => (if t714 = t718 then ((score_Times.f k a1 a0).bind fun t719 => (lecternlaw21_ScoreHeld.j0 k a0 a1 t715 (t715 != t719))) else (lecternlaw21_ScoreHeld.j0 k a0 a1 t715 true))))) else (if a1 ≤ 0 then (if t714 > a0 then (lecternlaw21_ScoreHeld.j0 k a0 a1 t715 true) else ((score_Sum.f k a1 a0).bind fun t720 => (if t714 = t720 then ((score_Times.f k a1 a0).bind fun t721 => (lecternlaw21_ScoreHeld.j0 k a0 a1 t715 (t715 != t721))) else (lecternlaw21_ScoreHeld.j0 k a0 a1 t715 true)))) else ((score_Sum.f k a1 a0).bind fun t722 => (if t714 = t722 then ((score_Times.f k a1 a0).bind fun t723 => (lecternlaw21_ScoreHeld.j0 k a0 a1 t715 (t715 != t723))) else (lecternlaw21_ScoreHeld.j0 k a0 a1 t715 true))))))) else (some false))) = some r := h
  clear h
  replace H := Option.bind_eq_some_iff.mp H
  obtain ⟨t713, A30, H⟩ := H
  replace H : (if t713 = true then ((score_Sum.f k a0 a1).bind fun t714 => ((score_Times.f k a0 a1).bind fun t715 => (if a1 ≥ 0 then (if t714 < a0 then (lecternlaw21_ScoreHeld.j0 k a0 a1 t715 true) else (if a1 ≤ 0 then (if t714 > a0 then (lecternlaw21_ScoreHeld.j0 k a0 a1 t715 true) else ((score_Sum.f k a1 a0).bind fun t716 => (if t714 = t716 then ((score_Times.f k a1 a0).bind fun t717 => (lecternlaw21_ScoreHeld.j0 k a0 a1 t715 (t715 != t717))) else (lecternlaw21_ScoreHeld.j0 k a0 a1 t715 true)))) else ((score_Sum.f k a1 a0).bind fun t718 => (if t714 = t718 then ((score_Times.f k a1 a0).bind fun t719 => (lecternlaw21_ScoreHeld.j0 k a0 a1 t715 (t715 != t719))) else (lecternlaw21_ScoreHeld.j0 k a0 a1 t715 true))))) else (if a1 ≤ 0 then (if t714 > a0 then (lecternlaw21_ScoreHeld.j0 k a0 a1 t715 true) else ((score_Sum.f k a1 a0).bind fun t720 => (if t714 = t720 then ((score_Times.f k a1 a0).bind fun t721 => (lecternlaw21_ScoreHeld.j0 k a0 a1 t715 (t715 != t721))) else (lecternlaw21_ScoreHeld.j0 k a0 a1 t715 true)))) else ((score_Sum.f k a1 a0).bind fun t722 => (if t714 = t722 then ((score_Times.f k a1 a0).bind fun t723 => (lecternlaw21_ScoreHeld.j0 k a0 a1 t715 (t715 != t723))) else (lecternlaw21_ScoreHeld.j0 k a0 a1 t715 true))))))) else (some false)) = some r := H
  have A3 := Aside0.mk A30
  clear A30
  by_cases c4 : t713 = true
  · subst c4
    have H1 : ((score_Sum.f k a0 a1).bind fun t714 => ((score_Times.f k a0 a1).bind fun t715 => (if a1 ≥ 0 then (if t714 < a0 then (lecternlaw21_ScoreHeld.j0 k a0 a1 t715 true) else (if a1 ≤ 0 then (if t714 > a0 then (lecternlaw21_ScoreHeld.j0 k a0 a1 t715 true) else ((score_Sum.f k a1 a0).bind fun t716 => (if t714 = t716 then ((score_Times.f k a1 a0).bind fun t717 => (lecternlaw21_ScoreHeld.j0 k a0 a1 t715 (t715 != t717))) else (lecternlaw21_ScoreHeld.j0 k a0 a1 t715 true)))) else ((score_Sum.f k a1 a0).bind fun t718 => (if t714 = t718 then ((score_Times.f k a1 a0).bind fun t719 => (lecternlaw21_ScoreHeld.j0 k a0 a1 t715 (t715 != t719))) else (lecternlaw21_ScoreHeld.j0 k a0 a1 t715 true))))) else (if a1 ≤ 0 then (if t714 > a0 then (lecternlaw21_ScoreHeld.j0 k a0 a1 t715 true) else ((score_Sum.f k a1 a0).bind fun t720 => (if t714 = t720 then ((score_Times.f k a1 a0).bind fun t721 => (lecternlaw21_ScoreHeld.j0 k a0 a1 t715 (t715 != t721))) else (lecternlaw21_ScoreHeld.j0 k a0 a1 t715 true)))) else ((score_Sum.f k a1 a0).bind fun t722 => (if t714 = t722 then ((score_Times.f k a1 a0).bind fun t723 => (lecternlaw21_ScoreHeld.j0 k a0 a1 t715 (t715 != t723))) else (lecternlaw21_ScoreHeld.j0 k a0 a1 t715 true))))))) = some r := by rw [if_pos rfl] at H; exact H
    clear H
    have H := H1
    clear H1
    replace H := Option.bind_eq_some_iff.mp H
    obtain ⟨t714, A50, H⟩ := H
    replace H : ((score_Times.f k a0 a1).bind fun t715 => (if a1 ≥ 0 then (if t714 < a0 then (lecternlaw21_ScoreHeld.j0 k a0 a1 t715 true) else (if a1 ≤ 0 then (if t714 > a0 then (lecternlaw21_ScoreHeld.j0 k a0 a1 t715 true) else ((score_Sum.f k a1 a0).bind fun t716 => (if t714 = t716 then ((score_Times.f k a1 a0).bind fun t717 => (lecternlaw21_ScoreHeld.j0 k a0 a1 t715 (t715 != t717))) else (lecternlaw21_ScoreHeld.j0 k a0 a1 t715 true)))) else ((score_Sum.f k a1 a0).bind fun t718 => (if t714 = t718 then ((score_Times.f k a1 a0).bind fun t719 => (lecternlaw21_ScoreHeld.j0 k a0 a1 t715 (t715 != t719))) else (lecternlaw21_ScoreHeld.j0 k a0 a1 t715 true))))) else (if a1 ≤ 0 then (if t714 > a0 then (lecternlaw21_ScoreHeld.j0 k a0 a1 t715 true) else ((score_Sum.f k a1 a0).bind fun t720 => (if t714 = t720 then ((score_Times.f k a1 a0).bind fun t721 => (lecternlaw21_ScoreHeld.j0 k a0 a1 t715 (t715 != t721))) else (lecternlaw21_ScoreHeld.j0 k a0 a1 t715 true)))) else ((score_Sum.f k a1 a0).bind fun t722 => (if t714 = t722 then ((score_Times.f k a1 a0).bind fun t723 => (lecternlaw21_ScoreHeld.j0 k a0 a1 t715 (t715 != t723))) else (lecternlaw21_ScoreHeld.j0 k a0 a1 t715 true)))))) = some r := H
    have A5 := Aside0.mk A50
    clear A50
    replace H := Option.bind_eq_some_iff.mp H
    obtain ⟨t715, A60, H⟩ := H
    replace H : (if a1 ≥ 0 then (if t714 < a0 then (lecternlaw21_ScoreHeld.j0 k a0 a1 t715 true) else (if a1 ≤ 0 then (if t714 > a0 then (lecternlaw21_ScoreHeld.j0 k a0 a1 t715 true) else ((score_Sum.f k a1 a0).bind fun t716 => (if t714 = t716 then ((score_Times.f k a1 a0).bind fun t717 => (lecternlaw21_ScoreHeld.j0 k a0 a1 t715 (t715 != t717))) else (lecternlaw21_ScoreHeld.j0 k a0 a1 t715 true)))) else ((score_Sum.f k a1 a0).bind fun t718 => (if t714 = t718 then ((score_Times.f k a1 a0).bind fun t719 => (lecternlaw21_ScoreHeld.j0 k a0 a1 t715 (t715 != t719))) else (lecternlaw21_ScoreHeld.j0 k a0 a1 t715 true))))) else (if a1 ≤ 0 then (if t714 > a0 then (lecternlaw21_ScoreHeld.j0 k a0 a1 t715 true) else ((score_Sum.f k a1 a0).bind fun t720 => (if t714 = t720 then ((score_Times.f k a1 a0).bind fun t721 => (lecternlaw21_ScoreHeld.j0 k a0 a1 t715 (t715 != t721))) else (lecternlaw21_ScoreHeld.j0 k a0 a1 t715 true)))) else ((score_Sum.f k a1 a0).bind fun t722 => (if t714 = t722 then ((score_Times.f k a1 a0).bind fun t723 => (lecternlaw21_ScoreHeld.j0 k a0 a1 t715 (t715 != t723))) else (lecternlaw21_ScoreHeld.j0 k a0 a1 t715 true))))) = some r := H
    have A6 := Aside0.mk A60
    clear A60
    have HC7 := Aside0.mk H
    clear H
    go_enter Tryz.func4, Tryz.ntmps4
    go_upto_region 4 with (first | ((with_reducible refine gate_callee (f := 5) rfl ?_); refine goesL_ (some 7) rfl rfl Tryz.func5 (by kernel_rfl) rfl #[] rfl (by (try simp only [List.map_toArray, List.map_cons, List.map_nil]); first | done | rfl | (simp only [List.length_drop, List.length_take]; rfl)) ?_; (with_reducible refine (lecternlaw21_known.calls true w hT A3.out).mono ?_); rintro e w' ⟨rfl, hkn⟩; refine ⟨_, rfl, ?_⟩) | ((with_reducible refine gate_callee (f := 7) rfl ?_); refine goesL_ (some 11) rfl rfl Tryz.func7 (by kernel_rfl) rfl #[.int .i64 a0, .int .i64 a1] rfl (by (try simp only [List.map_toArray, List.map_cons, List.map_nil]); first | done | rfl | (simp only [List.length_drop, List.length_take]; rfl)) ?_; (with_reducible refine (score_Sum.calls k a0 a1 t714 _ A5.out).mono ?_); rintro e w' ⟨rfl, ⟨nd, rfl⟩⟩; refine ⟨_, rfl, ?_⟩) | ((with_reducible refine gate_callee (f := 8) rfl ?_); refine goesL_ (some 14) rfl rfl Tryz.func8 (by kernel_rfl) rfl #[.int .i64 a0, .int .i64 a1] rfl (by (try simp only [List.map_toArray, List.map_cons, List.map_nil]); first | done | rfl | (simp only [List.length_drop, List.length_take]; rfl)) ?_; (with_reducible refine (score_Times.calls k a0 a1 t715 _ A6.out).mono ?_); rintro e w' ⟨rfl, ⟨nd, rfl⟩⟩; refine ⟨_, rfl, ?_⟩))
    (try simp only [Act.put, List.setIfInBounds_toArray, List.set_cons_zero, List.set_cons_succ])
    go_cut [44] (fun v44 wc => ∃ (kq : Nat) (x44_6 : Bool), v44 = .bool x44_6 ∧ Aside0 (lecternlaw21_ScoreHeld.j0 kq a0 a1 t715 x44_6 = some r) ∧ Aside0 (kq ≤ k) ∧ Kn w wc)
    case first =>
      have H := HC7.out
      clear HC7
      by_cases c8 : a1 ≥ 0
      · rw [if_pos c8] at H
        have c8b0 : decide (0 ≤ a1) = true := decide_eq_true c8
        clear c8
        (first | rw [c8b0] | (simp only [i64_w, i32_w]; rw [c8b0]) | skip)
        by_cases c9 : t714 < a0
        · rw [if_pos c9] at H
          have c9b0 : decide (t714 < a0) = true := decide_eq_true c9
          clear c9
          have H' := Aside0.mk H
          clear H
          go_wp2
          go_meet
          case rel => exact ⟨_, (true), (by first | rfl | (simp; done) | (simp [*]; done)), H', ⟨by first | omega | exact Nat.le_refl _⟩, by repeat (first | assumption | exact Kn.refl _ | apply Kn.step)⟩
        · rw [if_neg c9] at H
          have c9b0 : decide (t714 < a0) = false := decide_eq_false c9
          clear c9
          by_cases c10 : a1 ≤ 0
          · rw [if_pos c10] at H
            have c10b0 : decide (a1 ≤ 0) = true := decide_eq_true c10
            clear c10
            by_cases c11 : t714 > a0
            · rw [if_pos c11] at H
              have c11b0 : decide (a0 < t714) = true := decide_eq_true c11
              clear c11
              have H' := Aside0.mk H
              clear H
              go_wp2
              go_meet
              case rel => exact ⟨_, (true), (by first | rfl | (simp; done) | (simp [*]; done)), H', ⟨by first | omega | exact Nat.le_refl _⟩, by repeat (first | assumption | exact Kn.refl _ | apply Kn.step)⟩
            · rw [if_neg c11] at H
              have c11b0 : decide (a0 < t714) = false := decide_eq_false c11
              clear c11
              replace H := Option.bind_eq_some_iff.mp H
              obtain ⟨t716, A120, H⟩ := H
              replace H : (if t714 = t716 then ((score_Times.f k a1 a0).bind fun t717 => (lecternlaw21_ScoreHeld.j0 k a0 a1 t715 (t715 != t717))) else (lecternlaw21_ScoreHeld.j0 k a0 a1 t715 true)) = some r := H
              have A12 := Aside0.mk A120
              clear A120
              by_cases c13 : t714 = t716
              · rw [if_pos c13] at H
                have c13b0 : (t714 == t716) = true := beq_iff_eq.mpr c13
                have c13b1 : (t714 != t716) = false := bne_eq_false_iff_eq.mpr c13
                clear c13
                replace H := Option.bind_eq_some_iff.mp H
                obtain ⟨t717, A140, H⟩ := H
                replace H : (lecternlaw21_ScoreHeld.j0 k a0 a1 t715 (t715 != t717)) = some r := H
                have A14 := Aside0.mk A140
                clear A140
                have H' := Aside0.mk H
                clear H
                go_wp2_with (first | (go_at_call 7; (with_reducible refine (score_Sum.calls k a1 a0 t716 _ A12.out).mono ?_); rintro e w' ⟨rfl, ⟨nd, rfl⟩⟩) | (go_at_call 8; (with_reducible refine (score_Times.calls k a1 a0 t717 _ A14.out).mono ?_); rintro e w' ⟨rfl, ⟨nd, rfl⟩⟩))
                go_meet
                case rel => exact ⟨_, ((t715 != t717)), (by first | rfl | (simp; done) | (simp [*]; done)), H', ⟨by first | omega | exact Nat.le_refl _⟩, by repeat (first | assumption | exact Kn.refl _ | apply Kn.step)⟩
              · rw [if_neg c13] at H
                have c13b0 : (t714 == t716) = false := beq_eq_false_iff_ne.mpr c13
                have c13b1 : (t714 != t716) = true := bne_iff_ne.mpr c13
                have H' := Aside0.mk H
                clear H
                go_wp2_with (first | (go_at_call 7; (with_reducible refine (score_Sum.calls k a1 a0 t716 _ A12.out).mono ?_); rintro e w' ⟨rfl, ⟨nd, rfl⟩⟩))
                go_meet
                case rel => exact ⟨_, (true), (by first | rfl | (simp; done) | (simp [*]; done)), H', ⟨by first | omega | exact Nat.le_refl _⟩, by repeat (first | assumption | exact Kn.refl _ | apply Kn.step)⟩
          · rw [if_neg c10] at H
            have c10b0 : decide (a1 ≤ 0) = false := decide_eq_false c10
            clear c10
            replace H := Option.bind_eq_some_iff.mp H
            obtain ⟨t718, A150, H⟩ := H
            replace H : (if t714 = t718 then ((score_Times.f k a1 a0).bind fun t719 => (lecternlaw21_ScoreHeld.j0 k a0 a1 t715 (t715 != t719))) else (lecternlaw21_ScoreHeld.j0 k a0 a1 t715 true)) = some r := H
            have A15 := Aside0.mk A150
            clear A150
            by_cases c16 : t714 = t718
            · rw [if_pos c16] at H
              have c16b0 : (t714 == t718) = true := beq_iff_eq.mpr c16
              have c16b1 : (t714 != t718) = false := bne_eq_false_iff_eq.mpr c16
              clear c16
              replace H := Option.bind_eq_some_iff.mp H
              obtain ⟨t719, A170, H⟩ := H
              replace H : (lecternlaw21_ScoreHeld.j0 k a0 a1 t715 (t715 != t719)) = some r := H
              have A17 := Aside0.mk A170
              clear A170
              have H' := Aside0.mk H
              clear H
              go_wp2_with (first | (go_at_call 7; (with_reducible refine (score_Sum.calls k a1 a0 t718 _ A15.out).mono ?_); rintro e w' ⟨rfl, ⟨nd, rfl⟩⟩) | (go_at_call 8; (with_reducible refine (score_Times.calls k a1 a0 t719 _ A17.out).mono ?_); rintro e w' ⟨rfl, ⟨nd, rfl⟩⟩))
              go_meet
              case rel => exact ⟨_, ((t715 != t719)), (by first | rfl | (simp; done) | (simp [*]; done)), H', ⟨by first | omega | exact Nat.le_refl _⟩, by repeat (first | assumption | exact Kn.refl _ | apply Kn.step)⟩
            · rw [if_neg c16] at H
              have c16b0 : (t714 == t718) = false := beq_eq_false_iff_ne.mpr c16
              have c16b1 : (t714 != t718) = true := bne_iff_ne.mpr c16
              have H' := Aside0.mk H
              clear H
              go_wp2_with (first | (go_at_call 7; (with_reducible refine (score_Sum.calls k a1 a0 t718 _ A15.out).mono ?_); rintro e w' ⟨rfl, ⟨nd, rfl⟩⟩))
              go_meet
              case rel => exact ⟨_, (true), (by first | rfl | (simp; done) | (simp [*]; done)), H', ⟨by first | omega | exact Nat.le_refl _⟩, by repeat (first | assumption | exact Kn.refl _ | apply Kn.step)⟩
      · rw [if_neg c8] at H
        have c8b0 : decide (0 ≤ a1) = false := decide_eq_false c8
        clear c8
        (first | rw [c8b0] | (simp only [i64_w, i32_w]; rw [c8b0]) | skip)
        by_cases c18 : a1 ≤ 0
        · rw [if_pos c18] at H
          have c18b0 : decide (a1 ≤ 0) = true := decide_eq_true c18
          clear c18
          by_cases c19 : t714 > a0
          · rw [if_pos c19] at H
            have c19b0 : decide (a0 < t714) = true := decide_eq_true c19
            clear c19
            have H' := Aside0.mk H
            clear H
            go_wp2
            go_meet
            case rel => exact ⟨_, (true), (by first | rfl | (simp; done) | (simp [*]; done)), H', ⟨by first | omega | exact Nat.le_refl _⟩, by repeat (first | assumption | exact Kn.refl _ | apply Kn.step)⟩
          · rw [if_neg c19] at H
            have c19b0 : decide (a0 < t714) = false := decide_eq_false c19
            clear c19
            replace H := Option.bind_eq_some_iff.mp H
            obtain ⟨t720, A200, H⟩ := H
            replace H : (if t714 = t720 then ((score_Times.f k a1 a0).bind fun t721 => (lecternlaw21_ScoreHeld.j0 k a0 a1 t715 (t715 != t721))) else (lecternlaw21_ScoreHeld.j0 k a0 a1 t715 true)) = some r := H
            have A20 := Aside0.mk A200
            clear A200
            by_cases c21 : t714 = t720
            · rw [if_pos c21] at H
              have c21b0 : (t714 == t720) = true := beq_iff_eq.mpr c21
              have c21b1 : (t714 != t720) = false := bne_eq_false_iff_eq.mpr c21
              clear c21
              replace H := Option.bind_eq_some_iff.mp H
              obtain ⟨t721, A220, H⟩ := H
              replace H : (lecternlaw21_ScoreHeld.j0 k a0 a1 t715 (t715 != t721)) = some r := H
              have A22 := Aside0.mk A220
              clear A220
              have H' := Aside0.mk H
              clear H
              go_wp2_with (first | (go_at_call 7; (with_reducible refine (score_Sum.calls k a1 a0 t720 _ A20.out).mono ?_); rintro e w' ⟨rfl, ⟨nd, rfl⟩⟩) | (go_at_call 8; (with_reducible refine (score_Times.calls k a1 a0 t721 _ A22.out).mono ?_); rintro e w' ⟨rfl, ⟨nd, rfl⟩⟩))
              go_meet
              case rel => exact ⟨_, ((t715 != t721)), (by first | rfl | (simp; done) | (simp [*]; done)), H', ⟨by first | omega | exact Nat.le_refl _⟩, by repeat (first | assumption | exact Kn.refl _ | apply Kn.step)⟩
            · rw [if_neg c21] at H
              have c21b0 : (t714 == t720) = false := beq_eq_false_iff_ne.mpr c21
              have c21b1 : (t714 != t720) = true := bne_iff_ne.mpr c21
              have H' := Aside0.mk H
              clear H
              go_wp2_with (first | (go_at_call 7; (with_reducible refine (score_Sum.calls k a1 a0 t720 _ A20.out).mono ?_); rintro e w' ⟨rfl, ⟨nd, rfl⟩⟩))
              go_meet
              case rel => exact ⟨_, (true), (by first | rfl | (simp; done) | (simp [*]; done)), H', ⟨by first | omega | exact Nat.le_refl _⟩, by repeat (first | assumption | exact Kn.refl _ | apply Kn.step)⟩
        · rw [if_neg c18] at H
          have c18b0 : decide (a1 ≤ 0) = false := decide_eq_false c18
          clear c18
          replace H := Option.bind_eq_some_iff.mp H
          obtain ⟨t722, A230, H⟩ := H
          replace H : (if t714 = t722 then ((score_Times.f k a1 a0).bind fun t723 => (lecternlaw21_ScoreHeld.j0 k a0 a1 t715 (t715 != t723))) else (lecternlaw21_ScoreHeld.j0 k a0 a1 t715 true)) = some r := H
          have A23 := Aside0.mk A230
          clear A230
          by_cases c24 : t714 = t722
          · rw [if_pos c24] at H
            have c24b0 : (t714 == t722) = true := beq_iff_eq.mpr c24
            have c24b1 : (t714 != t722) = false := bne_eq_false_iff_eq.mpr c24
            clear c24
            replace H := Option.bind_eq_some_iff.mp H
            obtain ⟨t723, A250, H⟩ := H
            replace H : (lecternlaw21_ScoreHeld.j0 k a0 a1 t715 (t715 != t723)) = some r := H
            have A25 := Aside0.mk A250
            clear A250
            have H' := Aside0.mk H
            clear H
            go_wp2_with (first | (go_at_call 7; (with_reducible refine (score_Sum.calls k a1 a0 t722 _ A23.out).mono ?_); rintro e w' ⟨rfl, ⟨nd, rfl⟩⟩) | (go_at_call 8; (with_reducible refine (score_Times.calls k a1 a0 t723 _ A25.out).mono ?_); rintro e w' ⟨rfl, ⟨nd, rfl⟩⟩))
            go_meet
            case rel => exact ⟨_, ((t715 != t723)), (by first | rfl | (simp; done) | (simp [*]; done)), H', ⟨by first | omega | exact Nat.le_refl _⟩, by repeat (first | assumption | exact Kn.refl _ | apply Kn.step)⟩
          · rw [if_neg c24] at H
            have c24b0 : (t714 == t722) = false := beq_eq_false_iff_ne.mpr c24
            have c24b1 : (t714 != t722) = true := bne_iff_ne.mpr c24
            have H' := Aside0.mk H
            clear H
            go_wp2_with (first | (go_at_call 7; (with_reducible refine (score_Sum.calls k a1 a0 t722 _ A23.out).mono ?_); rintro e w' ⟨rfl, ⟨nd, rfl⟩⟩))
            go_meet
            case rel => exact ⟨_, (true), (by first | rfl | (simp; done) | (simp [*]; done)), H', ⟨by first | omega | exact Nat.le_refl _⟩, by repeat (first | assumption | exact Kn.refl _ | apply Kn.step)⟩
    case rest =>
      clear HC7
      try clear c1
      try clear c2
      try clear p2
      try clear c4
      try clear c5
      try clear c7
      try clear c8
      try clear c8b0
      try clear c9
      try clear c9b0
      try clear c10
      try clear c10b0
      try clear c11
      try clear c11b0
      try clear c13
      try clear c13b0
      try clear c13b1
      try clear c16
      try clear c16b0
      try clear c16b1
      try clear c18
      try clear c18b0
      try clear c19
      try clear c19b0
      try clear c21
      try clear c21b0
      try clear c21b1
      try clear c24
      try clear c24b0
      try clear c24b1
      obtain ⟨kq, x44_6, rfl, HA, HJ6, hkm6⟩ := hcut
      cases kq with
      | zero => exact absurd HA.out (by simp [lecternlaw21_ScoreHeld.j0])
      | succ kj6 =>
        have H := HA.out
        clear HA
        simp only [lecternlaw21_ScoreHeld.j0] at H
        by_cases c26 : x44_6 = true
        · subst c26
          have H1 : (some false) = some r := by rw [if_pos rfl] at H; exact H
          clear H
          have H := H1
          clear H1
          obtain rfl := Option.some.inj H
          go_wp2
          go_ret
          exact ⟨by first | rfl | (simp; done) | (simp [*]; done), by repeat (first | assumption | exact Kn.refl _ | apply Kn.step)⟩
        · replace c26 := Bool.eq_false_iff.mpr c26
          subst c26
          have H1 : (if a0 > 0 then (if a1 > 0 then (if t715 ≤ 0 then (lecternlaw21_ScoreHeld.j1 kj6 a0 true) else (if a1 < 0 then (if t715 ≥ 0 then (lecternlaw21_ScoreHeld.j1 kj6 a0 true) else (if a0 = 0 then (lecternlaw21_ScoreHeld.j1 kj6 a0 (t715 != 0)) else (if a1 = 0 then (lecternlaw21_ScoreHeld.j1 kj6 a0 (t715 != 0)) else (lecternlaw21_ScoreHeld.j1 kj6 a0 false)))) else (if a0 < 0 then (if t715 ≥ 0 then (lecternlaw21_ScoreHeld.j1 kj6 a0 true) else (if a0 = 0 then (lecternlaw21_ScoreHeld.j1 kj6 a0 (t715 != 0)) else (if a1 = 0 then (lecternlaw21_ScoreHeld.j1 kj6 a0 (t715 != 0)) else (lecternlaw21_ScoreHeld.j1 kj6 a0 false)))) else (if a0 = 0 then (lecternlaw21_ScoreHeld.j1 kj6 a0 (t715 != 0)) else (if a1 = 0 then (lecternlaw21_ScoreHeld.j1 kj6 a0 (t715 != 0)) else (lecternlaw21_ScoreHeld.j1 kj6 a0 false)))))) else (if a0 < 0 then (if a1 < 0 then (if t715 ≤ 0 then (lecternlaw21_ScoreHeld.j1 kj6 a0 true) else (if t715 ≥ 0 then (lecternlaw21_ScoreHeld.j1 kj6 a0 true) else (if a0 = 0 then (lecternlaw21_ScoreHeld.j1 kj6 a0 (t715 != 0)) else (if a1 = 0 then (lecternlaw21_ScoreHeld.j1 kj6 a0 (t715 != 0)) else (lecternlaw21_ScoreHeld.j1 kj6 a0 false))))) else (if a0 = 0 then (lecternlaw21_ScoreHeld.j1 kj6 a0 (t715 != 0)) else (if a1 = 0 then (lecternlaw21_ScoreHeld.j1 kj6 a0 (t715 != 0)) else (lecternlaw21_ScoreHeld.j1 kj6 a0 false)))) else (if a1 < 0 then (if t715 ≥ 0 then (lecternlaw21_ScoreHeld.j1 kj6 a0 true) else (if a0 = 0 then (lecternlaw21_ScoreHeld.j1 kj6 a0 (t715 != 0)) else (if a1 = 0 then (lecternlaw21_ScoreHeld.j1 kj6 a0 (t715 != 0)) else (lecternlaw21_ScoreHeld.j1 kj6 a0 false)))) else (if a0 = 0 then (lecternlaw21_ScoreHeld.j1 kj6 a0 (t715 != 0)) else (if a1 = 0 then (lecternlaw21_ScoreHeld.j1 kj6 a0 (t715 != 0)) else (lecternlaw21_ScoreHeld.j1 kj6 a0 false)))))) else (if a0 < 0 then (if a1 < 0 then (if t715 ≤ 0 then (lecternlaw21_ScoreHeld.j1 kj6 a0 true) else (if a1 > 0 then (if t715 ≥ 0 then (lecternlaw21_ScoreHeld.j1 kj6 a0 true) else (if a0 = 0 then (lecternlaw21_ScoreHeld.j1 kj6 a0 (t715 != 0)) else (if a1 = 0 then (lecternlaw21_ScoreHeld.j1 kj6 a0 (t715 != 0)) else (lecternlaw21_ScoreHeld.j1 kj6 a0 false)))) else (if a0 = 0 then (lecternlaw21_ScoreHeld.j1 kj6 a0 (t715 != 0)) else (if a1 = 0 then (lecternlaw21_ScoreHeld.j1 kj6 a0 (t715 != 0)) else (lecternlaw21_ScoreHeld.j1 kj6 a0 false))))) else (if a1 > 0 then (if t715 ≥ 0 then (lecternlaw21_ScoreHeld.j1 kj6 a0 true) else (if a0 = 0 then (lecternlaw21_ScoreHeld.j1 kj6 a0 (t715 != 0)) else (if a1 = 0 then (lecternlaw21_ScoreHeld.j1 kj6 a0 (t715 != 0)) else (lecternlaw21_ScoreHeld.j1 kj6 a0 false)))) else (if a0 = 0 then (lecternlaw21_ScoreHeld.j1 kj6 a0 (t715 != 0)) else (if a1 = 0 then (lecternlaw21_ScoreHeld.j1 kj6 a0 (t715 != 0)) else (lecternlaw21_ScoreHeld.j1 kj6 a0 false))))) else (if a0 = 0 then (lecternlaw21_ScoreHeld.j1 kj6 a0 (t715 != 0)) else (if a1 = 0 then (lecternlaw21_ScoreHeld.j1 kj6 a0 (t715 != 0)) else (lecternlaw21_ScoreHeld.j1 kj6 a0 false))))) = some r := by rw [if_neg (show ¬ (false = true) by decide)] at H; exact H
          clear H
          have H := H1
          clear H1
          have HC27 := Aside0.mk H
          clear H
          go_upto_region 6 with (fail)
          go_cut [94] (fun v94 wc => ∃ (kq : Nat) (x94_26 : Bool), v94 = .bool x94_26 ∧ Aside0 (lecternlaw21_ScoreHeld.j1 kq a0 x94_26 = some r) ∧ Aside0 (kq ≤ kj6) ∧ Kn w wc)
          case first =>
            have H := HC27.out
            clear HC27
            by_cases c28 : a0 > 0
            · rw [if_pos c28] at H
              have c28b0 : decide (0 < a0) = true := decide_eq_true c28
              clear c28
              (first | rw [c28b0] | (simp only [i64_w, i32_w]; rw [c28b0]) | skip)
              by_cases c29 : a1 > 0
              · rw [if_pos c29] at H
                have c29b0 : decide (0 < a1) = true := decide_eq_true c29
                clear c29
                by_cases c30 : t715 ≤ 0
                · rw [if_pos c30] at H
                  have c30b0 : decide (t715 ≤ 0) = true := decide_eq_true c30
                  clear c30
                  have H' := Aside0.mk H
                  clear H
                  go_wp2
                  go_meet
                  case rel => exact ⟨_, (true), (by first | rfl | (simp; done) | (simp [*]; done)), H', ⟨by have := HJ6.out; first | omega | exact Nat.le_refl _⟩, by repeat (first | assumption | exact Kn.refl _ | apply Kn.step)⟩
                · rw [if_neg c30] at H
                  have c30b0 : decide (t715 ≤ 0) = false := decide_eq_false c30
                  clear c30
                  by_cases c31 : a1 < 0
                  · rw [if_pos c31] at H
                    have c31b0 : decide (a1 < 0) = true := decide_eq_true c31
                    clear c31
                    by_cases c32 : t715 ≥ 0
                    · rw [if_pos c32] at H
                      have c32b0 : decide (0 ≤ t715) = true := decide_eq_true c32
                      clear c32
                      have H' := Aside0.mk H
                      clear H
                      go_wp2
                      go_meet
                      case rel => exact ⟨_, (true), (by first | rfl | (simp; done) | (simp [*]; done)), H', ⟨by have := HJ6.out; first | omega | exact Nat.le_refl _⟩, by repeat (first | assumption | exact Kn.refl _ | apply Kn.step)⟩
                    · rw [if_neg c32] at H
                      have c32b0 : decide (0 ≤ t715) = false := decide_eq_false c32
                      clear c32
                      by_cases c33 : a0 = 0
                      · rw [if_pos c33] at H
                        have c33b0 : (a0 == 0) = true := beq_iff_eq.mpr c33
                        have c33b1 : (a0 != 0) = false := bne_eq_false_iff_eq.mpr c33
                        clear c33
                        have H' := Aside0.mk H
                        clear H
                        go_wp2
                        go_meet
                        case rel => exact ⟨_, ((t715 != 0)), (by first | rfl | (simp; done) | (simp [*]; done)), H', ⟨by have := HJ6.out; first | omega | exact Nat.le_refl _⟩, by repeat (first | assumption | exact Kn.refl _ | apply Kn.step)⟩
                      · rw [if_neg c33] at H
                        have c33b0 : (a0 == 0) = false := beq_eq_false_iff_ne.mpr c33
                        have c33b1 : (a0 != 0) = true := bne_iff_ne.mpr c33
                        by_cases c34 : a1 = 0
                        · rw [if_pos c34] at H
                          have c34b0 : (a1 == 0) = true := beq_iff_eq.mpr c34
                          have c34b1 : (a1 != 0) = false := bne_eq_false_iff_eq.mpr c34
                          clear c34
                          have H' := Aside0.mk H
                          clear H
                          go_wp2
                          go_meet
                          case rel => exact ⟨_, ((t715 != 0)), (by first | rfl | (simp; done) | (simp [*]; done)), H', ⟨by have := HJ6.out; first | omega | exact Nat.le_refl _⟩, by repeat (first | assumption | exact Kn.refl _ | apply Kn.step)⟩
                        · rw [if_neg c34] at H
                          have c34b0 : (a1 == 0) = false := beq_eq_false_iff_ne.mpr c34
                          have c34b1 : (a1 != 0) = true := bne_iff_ne.mpr c34
                          have H' := Aside0.mk H
                          clear H
                          go_wp2
                          go_meet
                          case rel => exact ⟨_, (false), (by first | rfl | (simp; done) | (simp [*]; done)), H', ⟨by have := HJ6.out; first | omega | exact Nat.le_refl _⟩, by repeat (first | assumption | exact Kn.refl _ | apply Kn.step)⟩
                  · rw [if_neg c31] at H
                    have c31b0 : decide (a1 < 0) = false := decide_eq_false c31
                    clear c31
                    by_cases c35 : a0 < 0
                    · rw [if_pos c35] at H
                      have c35b0 : decide (a0 < 0) = true := decide_eq_true c35
                      clear c35
                      by_cases c36 : t715 ≥ 0
                      · rw [if_pos c36] at H
                        have c36b0 : decide (0 ≤ t715) = true := decide_eq_true c36
                        clear c36
                        have H' := Aside0.mk H
                        clear H
                        go_wp2
                        go_meet
                        case rel => exact ⟨_, (true), (by first | rfl | (simp; done) | (simp [*]; done)), H', ⟨by have := HJ6.out; first | omega | exact Nat.le_refl _⟩, by repeat (first | assumption | exact Kn.refl _ | apply Kn.step)⟩
                      · rw [if_neg c36] at H
                        have c36b0 : decide (0 ≤ t715) = false := decide_eq_false c36
                        clear c36
                        by_cases c37 : a0 = 0
                        · rw [if_pos c37] at H
                          have c37b0 : (a0 == 0) = true := beq_iff_eq.mpr c37
                          have c37b1 : (a0 != 0) = false := bne_eq_false_iff_eq.mpr c37
                          clear c37
                          have H' := Aside0.mk H
                          clear H
                          go_wp2
                          go_meet
                          case rel => exact ⟨_, ((t715 != 0)), (by first | rfl | (simp; done) | (simp [*]; done)), H', ⟨by have := HJ6.out; first | omega | exact Nat.le_refl _⟩, by repeat (first | assumption | exact Kn.refl _ | apply Kn.step)⟩
                        · rw [if_neg c37] at H
                          have c37b0 : (a0 == 0) = false := beq_eq_false_iff_ne.mpr c37
                          have c37b1 : (a0 != 0) = true := bne_iff_ne.mpr c37
                          by_cases c38 : a1 = 0
                          · rw [if_pos c38] at H
                            have c38b0 : (a1 == 0) = true := beq_iff_eq.mpr c38
                            have c38b1 : (a1 != 0) = false := bne_eq_false_iff_eq.mpr c38
                            clear c38
                            have H' := Aside0.mk H
                            clear H
                            go_wp2
                            go_meet
                            case rel => exact ⟨_, ((t715 != 0)), (by first | rfl | (simp; done) | (simp [*]; done)), H', ⟨by have := HJ6.out; first | omega | exact Nat.le_refl _⟩, by repeat (first | assumption | exact Kn.refl _ | apply Kn.step)⟩
                          · rw [if_neg c38] at H
                            have c38b0 : (a1 == 0) = false := beq_eq_false_iff_ne.mpr c38
                            have c38b1 : (a1 != 0) = true := bne_iff_ne.mpr c38
                            have H' := Aside0.mk H
                            clear H
                            go_wp2
                            go_meet
                            case rel => exact ⟨_, (false), (by first | rfl | (simp; done) | (simp [*]; done)), H', ⟨by have := HJ6.out; first | omega | exact Nat.le_refl _⟩, by repeat (first | assumption | exact Kn.refl _ | apply Kn.step)⟩
                    · rw [if_neg c35] at H
                      have c35b0 : decide (a0 < 0) = false := decide_eq_false c35
                      clear c35
                      by_cases c39 : a0 = 0
                      · rw [if_pos c39] at H
                        have c39b0 : (a0 == 0) = true := beq_iff_eq.mpr c39
                        have c39b1 : (a0 != 0) = false := bne_eq_false_iff_eq.mpr c39
                        clear c39
                        have H' := Aside0.mk H
                        clear H
                        go_wp2
                        go_meet
                        case rel => exact ⟨_, ((t715 != 0)), (by first | rfl | (simp; done) | (simp [*]; done)), H', ⟨by have := HJ6.out; first | omega | exact Nat.le_refl _⟩, by repeat (first | assumption | exact Kn.refl _ | apply Kn.step)⟩
                      · rw [if_neg c39] at H
                        have c39b0 : (a0 == 0) = false := beq_eq_false_iff_ne.mpr c39
                        have c39b1 : (a0 != 0) = true := bne_iff_ne.mpr c39
                        by_cases c40 : a1 = 0
                        · rw [if_pos c40] at H
                          have c40b0 : (a1 == 0) = true := beq_iff_eq.mpr c40
                          have c40b1 : (a1 != 0) = false := bne_eq_false_iff_eq.mpr c40
                          clear c40
                          have H' := Aside0.mk H
                          clear H
                          go_wp2
                          go_meet
                          case rel => exact ⟨_, ((t715 != 0)), (by first | rfl | (simp; done) | (simp [*]; done)), H', ⟨by have := HJ6.out; first | omega | exact Nat.le_refl _⟩, by repeat (first | assumption | exact Kn.refl _ | apply Kn.step)⟩
                        · rw [if_neg c40] at H
                          have c40b0 : (a1 == 0) = false := beq_eq_false_iff_ne.mpr c40
                          have c40b1 : (a1 != 0) = true := bne_iff_ne.mpr c40
                          have H' := Aside0.mk H
                          clear H
                          go_wp2
                          go_meet
                          case rel => exact ⟨_, (false), (by first | rfl | (simp; done) | (simp [*]; done)), H', ⟨by have := HJ6.out; first | omega | exact Nat.le_refl _⟩, by repeat (first | assumption | exact Kn.refl _ | apply Kn.step)⟩
              · rw [if_neg c29] at H
                have c29b0 : decide (0 < a1) = false := decide_eq_false c29
                clear c29
                by_cases c41 : a0 < 0
                · rw [if_pos c41] at H
                  have c41b0 : decide (a0 < 0) = true := decide_eq_true c41
                  clear c41
                  by_cases c42 : a1 < 0
                  · rw [if_pos c42] at H
                    have c42b0 : decide (a1 < 0) = true := decide_eq_true c42
                    clear c42
                    by_cases c43 : t715 ≤ 0
                    · rw [if_pos c43] at H
                      have c43b0 : decide (t715 ≤ 0) = true := decide_eq_true c43
                      clear c43
                      have H' := Aside0.mk H
                      clear H
                      go_wp2
                      go_meet
                      case rel => exact ⟨_, (true), (by first | rfl | (simp; done) | (simp [*]; done)), H', ⟨by have := HJ6.out; first | omega | exact Nat.le_refl _⟩, by repeat (first | assumption | exact Kn.refl _ | apply Kn.step)⟩
                    · rw [if_neg c43] at H
                      have c43b0 : decide (t715 ≤ 0) = false := decide_eq_false c43
                      clear c43
                      by_cases c44 : t715 ≥ 0
                      · rw [if_pos c44] at H
                        have c44b0 : decide (0 ≤ t715) = true := decide_eq_true c44
                        clear c44
                        have H' := Aside0.mk H
                        clear H
                        go_wp2
                        go_meet
                        case rel => exact ⟨_, (true), (by first | rfl | (simp; done) | (simp [*]; done)), H', ⟨by have := HJ6.out; first | omega | exact Nat.le_refl _⟩, by repeat (first | assumption | exact Kn.refl _ | apply Kn.step)⟩
                      · rw [if_neg c44] at H
                        have c44b0 : decide (0 ≤ t715) = false := decide_eq_false c44
                        clear c44
                        by_cases c45 : a0 = 0
                        · rw [if_pos c45] at H
                          have c45b0 : (a0 == 0) = true := beq_iff_eq.mpr c45
                          have c45b1 : (a0 != 0) = false := bne_eq_false_iff_eq.mpr c45
                          clear c45
                          have H' := Aside0.mk H
                          clear H
                          go_wp2
                          go_meet
                          case rel => exact ⟨_, ((t715 != 0)), (by first | rfl | (simp; done) | (simp [*]; done)), H', ⟨by have := HJ6.out; first | omega | exact Nat.le_refl _⟩, by repeat (first | assumption | exact Kn.refl _ | apply Kn.step)⟩
                        · rw [if_neg c45] at H
                          have c45b0 : (a0 == 0) = false := beq_eq_false_iff_ne.mpr c45
                          have c45b1 : (a0 != 0) = true := bne_iff_ne.mpr c45
                          by_cases c46 : a1 = 0
                          · rw [if_pos c46] at H
                            have c46b0 : (a1 == 0) = true := beq_iff_eq.mpr c46
                            have c46b1 : (a1 != 0) = false := bne_eq_false_iff_eq.mpr c46
                            clear c46
                            have H' := Aside0.mk H
                            clear H
                            go_wp2
                            go_meet
                            case rel => exact ⟨_, ((t715 != 0)), (by first | rfl | (simp; done) | (simp [*]; done)), H', ⟨by have := HJ6.out; first | omega | exact Nat.le_refl _⟩, by repeat (first | assumption | exact Kn.refl _ | apply Kn.step)⟩
                          · rw [if_neg c46] at H
                            have c46b0 : (a1 == 0) = false := beq_eq_false_iff_ne.mpr c46
                            have c46b1 : (a1 != 0) = true := bne_iff_ne.mpr c46
                            have H' := Aside0.mk H
                            clear H
                            go_wp2
                            go_meet
                            case rel => exact ⟨_, (false), (by first | rfl | (simp; done) | (simp [*]; done)), H', ⟨by have := HJ6.out; first | omega | exact Nat.le_refl _⟩, by repeat (first | assumption | exact Kn.refl _ | apply Kn.step)⟩
                  · rw [if_neg c42] at H
                    have c42b0 : decide (a1 < 0) = false := decide_eq_false c42
                    clear c42
                    by_cases c47 : a0 = 0
                    · rw [if_pos c47] at H
                      have c47b0 : (a0 == 0) = true := beq_iff_eq.mpr c47
                      have c47b1 : (a0 != 0) = false := bne_eq_false_iff_eq.mpr c47
                      clear c47
                      have H' := Aside0.mk H
                      clear H
                      go_wp2
                      go_meet
                      case rel => exact ⟨_, ((t715 != 0)), (by first | rfl | (simp; done) | (simp [*]; done)), H', ⟨by have := HJ6.out; first | omega | exact Nat.le_refl _⟩, by repeat (first | assumption | exact Kn.refl _ | apply Kn.step)⟩
                    · rw [if_neg c47] at H
                      have c47b0 : (a0 == 0) = false := beq_eq_false_iff_ne.mpr c47
                      have c47b1 : (a0 != 0) = true := bne_iff_ne.mpr c47
                      by_cases c48 : a1 = 0
                      · rw [if_pos c48] at H
                        have c48b0 : (a1 == 0) = true := beq_iff_eq.mpr c48
                        have c48b1 : (a1 != 0) = false := bne_eq_false_iff_eq.mpr c48
                        clear c48
                        have H' := Aside0.mk H
                        clear H
                        go_wp2
                        go_meet
                        case rel => exact ⟨_, ((t715 != 0)), (by first | rfl | (simp; done) | (simp [*]; done)), H', ⟨by have := HJ6.out; first | omega | exact Nat.le_refl _⟩, by repeat (first | assumption | exact Kn.refl _ | apply Kn.step)⟩
                      · rw [if_neg c48] at H
                        have c48b0 : (a1 == 0) = false := beq_eq_false_iff_ne.mpr c48
                        have c48b1 : (a1 != 0) = true := bne_iff_ne.mpr c48
                        have H' := Aside0.mk H
                        clear H
                        go_wp2
                        go_meet
                        case rel => exact ⟨_, (false), (by first | rfl | (simp; done) | (simp [*]; done)), H', ⟨by have := HJ6.out; first | omega | exact Nat.le_refl _⟩, by repeat (first | assumption | exact Kn.refl _ | apply Kn.step)⟩
                · rw [if_neg c41] at H
                  have c41b0 : decide (a0 < 0) = false := decide_eq_false c41
                  clear c41
                  by_cases c49 : a1 < 0
                  · rw [if_pos c49] at H
                    have c49b0 : decide (a1 < 0) = true := decide_eq_true c49
                    clear c49
                    by_cases c50 : t715 ≥ 0
                    · rw [if_pos c50] at H
                      have c50b0 : decide (0 ≤ t715) = true := decide_eq_true c50
                      clear c50
                      have H' := Aside0.mk H
                      clear H
                      go_wp2
                      go_meet
                      case rel => exact ⟨_, (true), (by first | rfl | (simp; done) | (simp [*]; done)), H', ⟨by have := HJ6.out; first | omega | exact Nat.le_refl _⟩, by repeat (first | assumption | exact Kn.refl _ | apply Kn.step)⟩
                    · rw [if_neg c50] at H
                      have c50b0 : decide (0 ≤ t715) = false := decide_eq_false c50
                      clear c50
                      by_cases c51 : a0 = 0
                      · rw [if_pos c51] at H
                        have c51b0 : (a0 == 0) = true := beq_iff_eq.mpr c51
                        have c51b1 : (a0 != 0) = false := bne_eq_false_iff_eq.mpr c51
                        clear c51
                        have H' := Aside0.mk H
                        clear H
                        go_wp2
                        go_meet
                        case rel => exact ⟨_, ((t715 != 0)), (by first | rfl | (simp; done) | (simp [*]; done)), H', ⟨by have := HJ6.out; first | omega | exact Nat.le_refl _⟩, by repeat (first | assumption | exact Kn.refl _ | apply Kn.step)⟩
                      · rw [if_neg c51] at H
                        have c51b0 : (a0 == 0) = false := beq_eq_false_iff_ne.mpr c51
                        have c51b1 : (a0 != 0) = true := bne_iff_ne.mpr c51
                        by_cases c52 : a1 = 0
                        · rw [if_pos c52] at H
                          have c52b0 : (a1 == 0) = true := beq_iff_eq.mpr c52
                          have c52b1 : (a1 != 0) = false := bne_eq_false_iff_eq.mpr c52
                          clear c52
                          have H' := Aside0.mk H
                          clear H
                          go_wp2
                          go_meet
                          case rel => exact ⟨_, ((t715 != 0)), (by first | rfl | (simp; done) | (simp [*]; done)), H', ⟨by have := HJ6.out; first | omega | exact Nat.le_refl _⟩, by repeat (first | assumption | exact Kn.refl _ | apply Kn.step)⟩
                        · rw [if_neg c52] at H
                          have c52b0 : (a1 == 0) = false := beq_eq_false_iff_ne.mpr c52
                          have c52b1 : (a1 != 0) = true := bne_iff_ne.mpr c52
                          have H' := Aside0.mk H
                          clear H
                          go_wp2
                          go_meet
                          case rel => exact ⟨_, (false), (by first | rfl | (simp; done) | (simp [*]; done)), H', ⟨by have := HJ6.out; first | omega | exact Nat.le_refl _⟩, by repeat (first | assumption | exact Kn.refl _ | apply Kn.step)⟩
                  · rw [if_neg c49] at H
                    have c49b0 : decide (a1 < 0) = false := decide_eq_false c49
                    clear c49
                    by_cases c53 : a0 = 0
                    · rw [if_pos c53] at H
                      have c53b0 : (a0 == 0) = true := beq_iff_eq.mpr c53
                      have c53b1 : (a0 != 0) = false := bne_eq_false_iff_eq.mpr c53
                      clear c53
                      have H' := Aside0.mk H
                      clear H
                      go_wp2
                      go_meet
                      case rel => exact ⟨_, ((t715 != 0)), (by first | rfl | (simp; done) | (simp [*]; done)), H', ⟨by have := HJ6.out; first | omega | exact Nat.le_refl _⟩, by repeat (first | assumption | exact Kn.refl _ | apply Kn.step)⟩
                    · rw [if_neg c53] at H
                      have c53b0 : (a0 == 0) = false := beq_eq_false_iff_ne.mpr c53
                      have c53b1 : (a0 != 0) = true := bne_iff_ne.mpr c53
                      by_cases c54 : a1 = 0
                      · rw [if_pos c54] at H
                        have c54b0 : (a1 == 0) = true := beq_iff_eq.mpr c54
                        have c54b1 : (a1 != 0) = false := bne_eq_false_iff_eq.mpr c54
                        clear c54
                        have H' := Aside0.mk H
                        clear H
                        go_wp2
                        go_meet
                        case rel => exact ⟨_, ((t715 != 0)), (by first | rfl | (simp; done) | (simp [*]; done)), H', ⟨by have := HJ6.out; first | omega | exact Nat.le_refl _⟩, by repeat (first | assumption | exact Kn.refl _ | apply Kn.step)⟩
                      · rw [if_neg c54] at H
                        have c54b0 : (a1 == 0) = false := beq_eq_false_iff_ne.mpr c54
                        have c54b1 : (a1 != 0) = true := bne_iff_ne.mpr c54
                        have H' := Aside0.mk H
                        clear H
                        go_wp2
                        go_meet
                        case rel => exact ⟨_, (false), (by first | rfl | (simp; done) | (simp [*]; done)), H', ⟨by have := HJ6.out; first | omega | exact Nat.le_refl _⟩, by repeat (first | assumption | exact Kn.refl _ | apply Kn.step)⟩
            · rw [if_neg c28] at H
              have c28b0 : decide (0 < a0) = false := decide_eq_false c28
              clear c28
              (first | rw [c28b0] | (simp only [i64_w, i32_w]; rw [c28b0]) | skip)
              by_cases c55 : a0 < 0
              · rw [if_pos c55] at H
                have c55b0 : decide (a0 < 0) = true := decide_eq_true c55
                clear c55
                by_cases c56 : a1 < 0
                · rw [if_pos c56] at H
                  have c56b0 : decide (a1 < 0) = true := decide_eq_true c56
                  clear c56
                  by_cases c57 : t715 ≤ 0
                  · rw [if_pos c57] at H
                    have c57b0 : decide (t715 ≤ 0) = true := decide_eq_true c57
                    clear c57
                    have H' := Aside0.mk H
                    clear H
                    go_wp2
                    go_meet
                    case rel => exact ⟨_, (true), (by first | rfl | (simp; done) | (simp [*]; done)), H', ⟨by have := HJ6.out; first | omega | exact Nat.le_refl _⟩, by repeat (first | assumption | exact Kn.refl _ | apply Kn.step)⟩
                  · rw [if_neg c57] at H
                    have c57b0 : decide (t715 ≤ 0) = false := decide_eq_false c57
                    clear c57
                    by_cases c58 : a1 > 0
                    · rw [if_pos c58] at H
                      have c58b0 : decide (0 < a1) = true := decide_eq_true c58
                      clear c58
                      by_cases c59 : t715 ≥ 0
                      · rw [if_pos c59] at H
                        have c59b0 : decide (0 ≤ t715) = true := decide_eq_true c59
                        clear c59
                        have H' := Aside0.mk H
                        clear H
                        go_wp2
                        go_meet
                        case rel => exact ⟨_, (true), (by first | rfl | (simp; done) | (simp [*]; done)), H', ⟨by have := HJ6.out; first | omega | exact Nat.le_refl _⟩, by repeat (first | assumption | exact Kn.refl _ | apply Kn.step)⟩
                      · rw [if_neg c59] at H
                        have c59b0 : decide (0 ≤ t715) = false := decide_eq_false c59
                        clear c59
                        by_cases c60 : a0 = 0
                        · rw [if_pos c60] at H
                          have c60b0 : (a0 == 0) = true := beq_iff_eq.mpr c60
                          have c60b1 : (a0 != 0) = false := bne_eq_false_iff_eq.mpr c60
                          clear c60
                          have H' := Aside0.mk H
                          clear H
                          go_wp2
                          go_meet
                          case rel => exact ⟨_, ((t715 != 0)), (by first | rfl | (simp; done) | (simp [*]; done)), H', ⟨by have := HJ6.out; first | omega | exact Nat.le_refl _⟩, by repeat (first | assumption | exact Kn.refl _ | apply Kn.step)⟩
                        · rw [if_neg c60] at H
                          have c60b0 : (a0 == 0) = false := beq_eq_false_iff_ne.mpr c60
                          have c60b1 : (a0 != 0) = true := bne_iff_ne.mpr c60
                          by_cases c61 : a1 = 0
                          · rw [if_pos c61] at H
                            have c61b0 : (a1 == 0) = true := beq_iff_eq.mpr c61
                            have c61b1 : (a1 != 0) = false := bne_eq_false_iff_eq.mpr c61
                            clear c61
                            have H' := Aside0.mk H
                            clear H
                            go_wp2
                            go_meet
                            case rel => exact ⟨_, ((t715 != 0)), (by first | rfl | (simp; done) | (simp [*]; done)), H', ⟨by have := HJ6.out; first | omega | exact Nat.le_refl _⟩, by repeat (first | assumption | exact Kn.refl _ | apply Kn.step)⟩
                          · rw [if_neg c61] at H
                            have c61b0 : (a1 == 0) = false := beq_eq_false_iff_ne.mpr c61
                            have c61b1 : (a1 != 0) = true := bne_iff_ne.mpr c61
                            have H' := Aside0.mk H
                            clear H
                            go_wp2
                            go_meet
                            case rel => exact ⟨_, (false), (by first | rfl | (simp; done) | (simp [*]; done)), H', ⟨by have := HJ6.out; first | omega | exact Nat.le_refl _⟩, by repeat (first | assumption | exact Kn.refl _ | apply Kn.step)⟩
                    · rw [if_neg c58] at H
                      have c58b0 : decide (0 < a1) = false := decide_eq_false c58
                      clear c58
                      by_cases c62 : a0 = 0
                      · rw [if_pos c62] at H
                        have c62b0 : (a0 == 0) = true := beq_iff_eq.mpr c62
                        have c62b1 : (a0 != 0) = false := bne_eq_false_iff_eq.mpr c62
                        clear c62
                        have H' := Aside0.mk H
                        clear H
                        go_wp2
                        go_meet
                        case rel => exact ⟨_, ((t715 != 0)), (by first | rfl | (simp; done) | (simp [*]; done)), H', ⟨by have := HJ6.out; first | omega | exact Nat.le_refl _⟩, by repeat (first | assumption | exact Kn.refl _ | apply Kn.step)⟩
                      · rw [if_neg c62] at H
                        have c62b0 : (a0 == 0) = false := beq_eq_false_iff_ne.mpr c62
                        have c62b1 : (a0 != 0) = true := bne_iff_ne.mpr c62
                        by_cases c63 : a1 = 0
                        · rw [if_pos c63] at H
                          have c63b0 : (a1 == 0) = true := beq_iff_eq.mpr c63
                          have c63b1 : (a1 != 0) = false := bne_eq_false_iff_eq.mpr c63
                          clear c63
                          have H' := Aside0.mk H
                          clear H
                          go_wp2
                          go_meet
                          case rel => exact ⟨_, ((t715 != 0)), (by first | rfl | (simp; done) | (simp [*]; done)), H', ⟨by have := HJ6.out; first | omega | exact Nat.le_refl _⟩, by repeat (first | assumption | exact Kn.refl _ | apply Kn.step)⟩
                        · rw [if_neg c63] at H
                          have c63b0 : (a1 == 0) = false := beq_eq_false_iff_ne.mpr c63
                          have c63b1 : (a1 != 0) = true := bne_iff_ne.mpr c63
                          have H' := Aside0.mk H
                          clear H
                          go_wp2
                          go_meet
                          case rel => exact ⟨_, (false), (by first | rfl | (simp; done) | (simp [*]; done)), H', ⟨by have := HJ6.out; first | omega | exact Nat.le_refl _⟩, by repeat (first | assumption | exact Kn.refl _ | apply Kn.step)⟩
                · rw [if_neg c56] at H
                  have c56b0 : decide (a1 < 0) = false := decide_eq_false c56
                  clear c56
                  by_cases c64 : a1 > 0
                  · rw [if_pos c64] at H
                    have c64b0 : decide (0 < a1) = true := decide_eq_true c64
                    clear c64
                    by_cases c65 : t715 ≥ 0
                    · rw [if_pos c65] at H
                      have c65b0 : decide (0 ≤ t715) = true := decide_eq_true c65
                      clear c65
                      have H' := Aside0.mk H
                      clear H
                      go_wp2
                      go_meet
                      case rel => exact ⟨_, (true), (by first | rfl | (simp; done) | (simp [*]; done)), H', ⟨by have := HJ6.out; first | omega | exact Nat.le_refl _⟩, by repeat (first | assumption | exact Kn.refl _ | apply Kn.step)⟩
                    · rw [if_neg c65] at H
                      have c65b0 : decide (0 ≤ t715) = false := decide_eq_false c65
                      clear c65
                      by_cases c66 : a0 = 0
                      · rw [if_pos c66] at H
                        have c66b0 : (a0 == 0) = true := beq_iff_eq.mpr c66
                        have c66b1 : (a0 != 0) = false := bne_eq_false_iff_eq.mpr c66
                        clear c66
                        have H' := Aside0.mk H
                        clear H
                        go_wp2
                        go_meet
                        case rel => exact ⟨_, ((t715 != 0)), (by first | rfl | (simp; done) | (simp [*]; done)), H', ⟨by have := HJ6.out; first | omega | exact Nat.le_refl _⟩, by repeat (first | assumption | exact Kn.refl _ | apply Kn.step)⟩
                      · rw [if_neg c66] at H
                        have c66b0 : (a0 == 0) = false := beq_eq_false_iff_ne.mpr c66
                        have c66b1 : (a0 != 0) = true := bne_iff_ne.mpr c66
                        by_cases c67 : a1 = 0
                        · rw [if_pos c67] at H
                          have c67b0 : (a1 == 0) = true := beq_iff_eq.mpr c67
                          have c67b1 : (a1 != 0) = false := bne_eq_false_iff_eq.mpr c67
                          clear c67
                          have H' := Aside0.mk H
                          clear H
                          go_wp2
                          go_meet
                          case rel => exact ⟨_, ((t715 != 0)), (by first | rfl | (simp; done) | (simp [*]; done)), H', ⟨by have := HJ6.out; first | omega | exact Nat.le_refl _⟩, by repeat (first | assumption | exact Kn.refl _ | apply Kn.step)⟩
                        · rw [if_neg c67] at H
                          have c67b0 : (a1 == 0) = false := beq_eq_false_iff_ne.mpr c67
                          have c67b1 : (a1 != 0) = true := bne_iff_ne.mpr c67
                          have H' := Aside0.mk H
                          clear H
                          go_wp2
                          go_meet
                          case rel => exact ⟨_, (false), (by first | rfl | (simp; done) | (simp [*]; done)), H', ⟨by have := HJ6.out; first | omega | exact Nat.le_refl _⟩, by repeat (first | assumption | exact Kn.refl _ | apply Kn.step)⟩
                  · rw [if_neg c64] at H
                    have c64b0 : decide (0 < a1) = false := decide_eq_false c64
                    clear c64
                    by_cases c68 : a0 = 0
                    · rw [if_pos c68] at H
                      have c68b0 : (a0 == 0) = true := beq_iff_eq.mpr c68
                      have c68b1 : (a0 != 0) = false := bne_eq_false_iff_eq.mpr c68
                      clear c68
                      have H' := Aside0.mk H
                      clear H
                      go_wp2
                      go_meet
                      case rel => exact ⟨_, ((t715 != 0)), (by first | rfl | (simp; done) | (simp [*]; done)), H', ⟨by have := HJ6.out; first | omega | exact Nat.le_refl _⟩, by repeat (first | assumption | exact Kn.refl _ | apply Kn.step)⟩
                    · rw [if_neg c68] at H
                      have c68b0 : (a0 == 0) = false := beq_eq_false_iff_ne.mpr c68
                      have c68b1 : (a0 != 0) = true := bne_iff_ne.mpr c68
                      by_cases c69 : a1 = 0
                      · rw [if_pos c69] at H
                        have c69b0 : (a1 == 0) = true := beq_iff_eq.mpr c69
                        have c69b1 : (a1 != 0) = false := bne_eq_false_iff_eq.mpr c69
                        clear c69
                        have H' := Aside0.mk H
                        clear H
                        go_wp2
                        go_meet
                        case rel => exact ⟨_, ((t715 != 0)), (by first | rfl | (simp; done) | (simp [*]; done)), H', ⟨by have := HJ6.out; first | omega | exact Nat.le_refl _⟩, by repeat (first | assumption | exact Kn.refl _ | apply Kn.step)⟩
                      · rw [if_neg c69] at H
                        have c69b0 : (a1 == 0) = false := beq_eq_false_iff_ne.mpr c69
                        have c69b1 : (a1 != 0) = true := bne_iff_ne.mpr c69
                        have H' := Aside0.mk H
                        clear H
                        go_wp2
                        go_meet
                        case rel => exact ⟨_, (false), (by first | rfl | (simp; done) | (simp [*]; done)), H', ⟨by have := HJ6.out; first | omega | exact Nat.le_refl _⟩, by repeat (first | assumption | exact Kn.refl _ | apply Kn.step)⟩
              · rw [if_neg c55] at H
                have c55b0 : decide (a0 < 0) = false := decide_eq_false c55
                clear c55
                by_cases c70 : a0 = 0
                · rw [if_pos c70] at H
                  have c70b0 : (a0 == 0) = true := beq_iff_eq.mpr c70
                  have c70b1 : (a0 != 0) = false := bne_eq_false_iff_eq.mpr c70
                  clear c70
                  have H' := Aside0.mk H
                  clear H
                  go_wp2
                  go_meet
                  case rel => exact ⟨_, ((t715 != 0)), (by first | rfl | (simp; done) | (simp [*]; done)), H', ⟨by have := HJ6.out; first | omega | exact Nat.le_refl _⟩, by repeat (first | assumption | exact Kn.refl _ | apply Kn.step)⟩
                · rw [if_neg c70] at H
                  have c70b0 : (a0 == 0) = false := beq_eq_false_iff_ne.mpr c70
                  have c70b1 : (a0 != 0) = true := bne_iff_ne.mpr c70
                  by_cases c71 : a1 = 0
                  · rw [if_pos c71] at H
                    have c71b0 : (a1 == 0) = true := beq_iff_eq.mpr c71
                    have c71b1 : (a1 != 0) = false := bne_eq_false_iff_eq.mpr c71
                    clear c71
                    have H' := Aside0.mk H
                    clear H
                    go_wp2
                    go_meet
                    case rel => exact ⟨_, ((t715 != 0)), (by first | rfl | (simp; done) | (simp [*]; done)), H', ⟨by have := HJ6.out; first | omega | exact Nat.le_refl _⟩, by repeat (first | assumption | exact Kn.refl _ | apply Kn.step)⟩
                  · rw [if_neg c71] at H
                    have c71b0 : (a1 == 0) = false := beq_eq_false_iff_ne.mpr c71
                    have c71b1 : (a1 != 0) = true := bne_iff_ne.mpr c71
                    have H' := Aside0.mk H
                    clear H
                    go_wp2
                    go_meet
                    case rel => exact ⟨_, (false), (by first | rfl | (simp; done) | (simp [*]; done)), H', ⟨by have := HJ6.out; first | omega | exact Nat.le_refl _⟩, by repeat (first | assumption | exact Kn.refl _ | apply Kn.step)⟩
          case rest =>
            clear HC27
            try clear c1
            try clear c2
            try clear p2
            try clear c3
            try clear c4
            try clear c5
            try clear c6
            try clear c7
            try clear c18
            try clear c18b0
            try clear c19
            try clear c19b0
            try clear c21
            try clear c21b0
            try clear c21b1
            try clear c24
            try clear c24b0
            try clear c24b1
            try clear c26
            try clear c28
            try clear c28b0
            try clear c29
            try clear c29b0
            try clear c30
            try clear c30b0
            try clear c31
            try clear c31b0
            try clear c32
            try clear c32b0
            try clear c33
            try clear c33b0
            try clear c33b1
            try clear c34
            try clear c34b0
            try clear c34b1
            try clear c35
            try clear c35b0
            try clear c36
            try clear c36b0
            try clear c37
            try clear c37b0
            try clear c37b1
            try clear c38
            try clear c38b0
            try clear c38b1
            try clear c39
            try clear c39b0
            try clear c39b1
            try clear c40
            try clear c40b0
            try clear c40b1
            try clear c41
            try clear c41b0
            try clear c42
            try clear c42b0
            try clear c43
            try clear c43b0
            try clear c44
            try clear c44b0
            try clear c45
            try clear c45b0
            try clear c45b1
            try clear c46
            try clear c46b0
            try clear c46b1
            try clear c47
            try clear c47b0
            try clear c47b1
            try clear c48
            try clear c48b0
            try clear c48b1
            try clear c49
            try clear c49b0
            try clear c50
            try clear c50b0
            try clear c51
            try clear c51b0
            try clear c51b1
            try clear c52
            try clear c52b0
            try clear c52b1
            try clear c53
            try clear c53b0
            try clear c53b1
            try clear c54
            try clear c54b0
            try clear c54b1
            try clear c55
            try clear c55b0
            try clear c56
            try clear c56b0
            try clear c57
            try clear c57b0
            try clear c58
            try clear c58b0
            try clear c59
            try clear c59b0
            try clear c60
            try clear c60b0
            try clear c60b1
            try clear c61
            try clear c61b0
            try clear c61b1
            try clear c62
            try clear c62b0
            try clear c62b1
            try clear c63
            try clear c63b0
            try clear c63b1
            try clear c64
            try clear c64b0
            try clear c65
            try clear c65b0
            try clear c66
            try clear c66b0
            try clear c66b1
            try clear c67
            try clear c67b0
            try clear c67b1
            try clear c68
            try clear c68b0
            try clear c68b1
            try clear c69
            try clear c69b0
            try clear c69b1
            try clear c70
            try clear c70b0
            try clear c70b1
            try clear c71
            try clear c71b0
            try clear c71b1
            obtain ⟨kq, x94_26, rfl, HA, HJ26, hkm26⟩ := hcut
            cases kq with
            | zero => exact absurd HA.out (by simp [lecternlaw21_ScoreHeld.j1])
            | succ kj26 =>
              have H := HA.out
              clear HA
              simp only [lecternlaw21_ScoreHeld.j1] at H
              by_cases c72 : x94_26 = true
              · subst c72
                have H1 : (some false) = some r := by rw [if_pos rfl] at H; exact H
                clear H
                have H := H1
                clear H1
                obtain rfl := Option.some.inj H
                go_wp2
                go_ret
                exact ⟨by first | rfl | (simp; done) | (simp [*]; done), by repeat (first | assumption | exact Kn.refl _ | apply Kn.step)⟩
              · replace c72 := Bool.eq_false_iff.mpr c72
                subst c72
                have H1 : ((score_Times.f kj26 a0 1).bind fun t724 => (if t724 = a0 then ((score_Sum.f kj26 a0 0).bind fun t725 => (some (t725 == a0))) else (some false))) = some r := by rw [if_neg (show ¬ (false = true) by decide)] at H; exact H
                clear H
                have H := H1
                clear H1
                replace H := Option.bind_eq_some_iff.mp H
                obtain ⟨t724, A730, H⟩ := H
                replace H : (if t724 = a0 then ((score_Sum.f kj26 a0 0).bind fun t725 => (some (t725 == a0))) else (some false)) = some r := H
                have A73 := Aside0.mk A730
                clear A730
                by_cases c74 : t724 = a0
                · rw [if_pos c74] at H
                  have c74b0 : (t724 == a0) = true := beq_iff_eq.mpr c74
                  have c74b1 : (t724 != a0) = false := bne_eq_false_iff_eq.mpr c74
                  clear c74
                  replace H := Option.bind_eq_some_iff.mp H
                  obtain ⟨t725, A750, H⟩ := H
                  replace H : (some (t725 == a0)) = some r := H
                  have A75 := Aside0.mk A750
                  clear A750
                  obtain rfl := Option.some.inj H
                  go_wp2_with (first | ((with_reducible refine gate_callee (f := 8) rfl ?_); refine goesL_ (some 96) rfl rfl Tryz.func8 (by kernel_rfl) rfl #[.int .i64 a0, .int .i64 1] rfl (by (try simp only [List.map_toArray, List.map_cons, List.map_nil]); first | done | rfl | (simp only [List.length_drop, List.length_take]; rfl)) ?_; (with_reducible refine (score_Times.calls kj26 a0 1 t724 _ A73.out).mono ?_); rintro e w' ⟨rfl, ⟨nd, rfl⟩⟩; refine ⟨_, rfl, ?_⟩) | (go_at_call 7; (with_reducible refine (score_Sum.calls kj26 a0 0 t725 _ A75.out).mono ?_); rintro e w' ⟨rfl, ⟨nd, rfl⟩⟩))
                  go_ret
                  exact ⟨by first | rfl | (simp; done) | (simp [*]; done), by repeat (first | assumption | exact Kn.refl _ | apply Kn.step)⟩
                · rw [if_neg c74] at H
                  have c74b0 : (t724 == a0) = false := beq_eq_false_iff_ne.mpr c74
                  have c74b1 : (t724 != a0) = true := bne_iff_ne.mpr c74
                  obtain rfl := Option.some.inj H
                  go_wp2_with (first | ((with_reducible refine gate_callee (f := 8) rfl ?_); refine goesL_ (some 96) rfl rfl Tryz.func8 (by kernel_rfl) rfl #[.int .i64 a0, .int .i64 1] rfl (by (try simp only [List.map_toArray, List.map_cons, List.map_nil]); first | done | rfl | (simp only [List.length_drop, List.length_take]; rfl)) ?_; (with_reducible refine (score_Times.calls kj26 a0 1 t724 _ A73.out).mono ?_); rintro e w' ⟨rfl, ⟨nd, rfl⟩⟩; refine ⟨_, rfl, ?_⟩))
                  go_ret
                  exact ⟨by first | rfl | (simp; done) | (simp [*]; done), by repeat (first | assumption | exact Kn.refl _ | apply Kn.step)⟩
  · replace c4 := Bool.eq_false_iff.mpr c4
    subst c4
    have H1 : (some false) = some r := by rw [if_neg (show ¬ (false = true) by decide)] at H; exact H
    clear H
    have H := H1
    clear H1
    obtain rfl := Option.some.inj H
    go_enter Tryz.func4, Tryz.ntmps4
    go_wp2_with (first | ((with_reducible refine gate_callee (f := 5) rfl ?_); refine goesL_ (some 7) rfl rfl Tryz.func5 (by kernel_rfl) rfl #[] rfl (by (try simp only [List.map_toArray, List.map_cons, List.map_nil]); first | done | rfl | (simp only [List.length_drop, List.length_take]; rfl)) ?_; (with_reducible refine (lecternlaw21_known.calls false w hT A3.out).mono ?_); rintro e w' ⟨rfl, hkn⟩; refine ⟨_, rfl, ?_⟩))
    go_ret
    exact ⟨by first | rfl | (simp; done) | (simp [*]; done), by repeat (first | assumption | exact Kn.refl _ | apply Kn.step)⟩

/-- THE ONE PURE STATEMENT of lecternlaw21_ScoreHeld: yours. -/
def lecternlaw21_ScoreHeld.Pure : Prop := ∀ (a0 : Int) (a1 : Int), (Lit.int .i64 a0).wf = true → (Lit.int .i64 a1).wf = true → ∃ k, lecternlaw21_ScoreHeld.f k a0 a1 = some true
theorem lecternlaw21_ScoreHeld.walk (P : lecternlaw21_ScoreHeld.Pure) (a0 : Int) (a1 : Int) (w : World) (hT : HasTab w) (w0 : (Lit.int .i64 a0).wf = true) (w1 : (Lit.int .i64 a1).wf = true) :
    Calls Tryz.prog 4 #[.int .i64 a0, .int .i64 a1] w fun e w' => e = .returned (.bool true) ∧ Below w.heap.size w w' := by
  obtain ⟨k, h⟩ := P a0 a1 w0 w1
  refine (lecternlaw21_ScoreHeld.calls k a0 a1 true w hT h).mono ?_
  rintro e w' ⟨rfl, hd⟩
  exact ⟨rfl, hd⟩

/-! ### lecternlaw21_ScoreWeights: function 3 -/
def lecternlaw21_ScoreWeights.j0 : Nat → Int → Int → Int → Int → Int → Int → Bool → Option (Bool)
  | 0, _, _, _, _, _, _, _ => none
  | k + 1, x0, x1, x2, x3, x4, x11, x57 => if x57 = true then (some (decide (x11 ≥ 0))) else (if x11 ≥ 0 then ((score_Weight.f k (wrap64 (x0 + 1)) x1 x2 x3 x4).bind fun t728 => (if t728 ≥ x11 then ((score_Weight.f k x0 (wrap64 (x1 + 1)) x2 x3 x4).bind fun t729 => (if t729 ≥ x11 then ((score_Weight.f k x0 x1 (wrap64 (x2 + 1)) x3 x4).bind fun t730 => (if t730 ≤ x11 then (some (decide (x11 ≤ (wrap64 (Int.tdiv (wrap64 (x0 * 22)) 10))))) else (some false))) else (some false))) else (some false))) else (some false))
def lecternlaw21_ScoreWeights.f (k : Nat) (a0 : Int) (a1 : Int) (a2 : Int) (a3 : Int) (a4 : Int) : Option (Bool) := (lecternlaw21_known.f).bind fun t726 => (if t726 = true then ((score_Weight.f k a0 a1 a2 a3 a4).bind fun t727 => (if a0 < 0 then (lecternlaw21_ScoreWeights.j0 k a0 a1 a2 a3 a4 t727 true) else (if a0 ≥ 1099511627776 then (lecternlaw21_ScoreWeights.j0 k a0 a1 a2 a3 a4 t727 true) else (if a1 < 1 then (lecternlaw21_ScoreWeights.j0 k a0 a1 a2 a3 a4 t727 true) else (if a1 ≥ 1048576 then (lecternlaw21_ScoreWeights.j0 k a0 a1 a2 a3 a4 t727 true) else (if a2 < 1 then (lecternlaw21_ScoreWeights.j0 k a0 a1 a2 a3 a4 t727 true) else (if a2 ≥ 1048576 then (lecternlaw21_ScoreWeights.j0 k a0 a1 a2 a3 a4 t727 true) else (if a3 < 1 then (lecternlaw21_ScoreWeights.j0 k a0 a1 a2 a3 a4 t727 true) else (if a3 > 1048576 then (lecternlaw21_ScoreWeights.j0 k a0 a1 a2 a3 a4 t727 true) else (if a4 < 1 then (lecternlaw21_ScoreWeights.j0 k a0 a1 a2 a3 a4 t727 true) else (lecternlaw21_ScoreWeights.j0 k a0 a1 a2 a3 a4 t727 (decide (a4 > 1099511627776))))))))))))) else (some false))
theorem lecternlaw21_ScoreWeights.mono_l : ∀ k, (∀ y0 y1 y2 y3 y4 y5 y6, LeO (lecternlaw21_ScoreWeights.j0 k y0 y1 y2 y3 y4 y5 y6) (lecternlaw21_ScoreWeights.j0 (k + 1) y0 y1 y2 y3 y4 y5 y6))
  | 0 => fun _ _ _ _ _ _ _ r h => by simp [lecternlaw21_ScoreWeights.j0] at h
  | k + 1 => by
    have ih0 := lecternlaw21_ScoreWeights.mono_l k
    · intro y0 y1 y2 y3 y4 y5 y6
      unfold lecternlaw21_ScoreWeights.j0
      repeat' first
      | (with_reducible exact ih0 _ _ _ _ _ _ _)
      | (with_reducible exact score_Weight.mono _ _ _ _ _ _)
      | (with_reducible exact LeO.refl _)
      | (with_reducible exact LeO.none _)
      | (with_reducible refine LeO.ite ?_ ?_)
      | (with_reducible refine LeO.bind ?_ (fun _ => ?_))
      | exact ih0 _ _ _ _ _ _ _
      | exact score_Weight.mono _ _ _ _ _ _
      | exact LeO.none _
      | refine LeO.ite ?_ ?_
      | refine LeO.bind ?_ (fun _ => ?_)
theorem lecternlaw21_ScoreWeights.mono : ∀ a0 a1 a2 a3 a4 k, LeO (lecternlaw21_ScoreWeights.f k a0 a1 a2 a3 a4) (lecternlaw21_ScoreWeights.f (k + 1) a0 a1 a2 a3 a4) := by
  intro a0 a1 a2 a3 a4 k
  have ih0 := lecternlaw21_ScoreWeights.mono_l k
  unfold lecternlaw21_ScoreWeights.f
  repeat' first
      | (with_reducible exact ih0 _ _ _ _ _ _ _)
      | (with_reducible exact score_Weight.mono _ _ _ _ _ _)
      | (with_reducible exact LeO.refl _)
      | (with_reducible exact LeO.none _)
      | (with_reducible refine LeO.ite ?_ ?_)
      | (with_reducible refine LeO.bind ?_ (fun _ => ?_))
      | exact ih0 _ _ _ _ _ _ _
      | exact score_Weight.mono _ _ _ _ _ _
      | exact LeO.none _
      | refine LeO.ite ?_ ?_
      | refine LeO.bind ?_ (fun _ => ?_)
set_option maxHeartbeats 8000000 in
set_option maxRecDepth 100000 in
theorem lecternlaw21_ScoreWeights.calls (k : Nat) (a0 : Int) (a1 : Int) (a2 : Int) (a3 : Int) (a4 : Int) (r : Bool) (w : World) (hT : HasTab w) (h : lecternlaw21_ScoreWeights.f k a0 a1 a2 a3 a4 = some r) :
    Calls Tryz.prog 3 #[.int .i64 a0, .int .i64 a1, .int .i64 a2, .int .i64 a3, .int .i64 a4] w fun e w' => e = .returned (.bool r) ∧ Kn w w' := by
  have H : ((lecternlaw21_known.f).bind fun t726 => (if t726 = true then ((score_Weight.f k a0 a1 a2 a3 a4).bind fun t727 => (if a0 < 0 then (lecternlaw21_ScoreWeights.j0 k a0 a1 a2 a3 a4 t727 true) else (if a0 ≥ 1099511627776 then (lecternlaw21_ScoreWeights.j0 k a0 a1 a2 a3 a4 t727 true) else (if a1 < 1 then (lecternlaw21_ScoreWeights.j0 k a0 a1 a2 a3 a4 t727 true) else (if a1 ≥ 1048576 then (lecternlaw21_ScoreWeights.j0 k a0 a1 a2 a3 a4 t727 true) else (if a2 < 1 then (lecternlaw21_ScoreWeights.j0 k a0 a1 a2 a3 a4 t727 true) else (if a2 ≥ 1048576 then (lecternlaw21_ScoreWeights.j0 k a0 a1 a2 a3 a4 t727 true) else (if a3 < 1 then (lecternlaw21_ScoreWeights.j0 k a0 a1 a2 a3 a4 t727 true) else (if a3 > 1048576 then (lecternlaw21_ScoreWeights.j0 k a0 a1 a2 a3 a4 t727 true) else (if a4 < 1 then (lecternlaw21_ScoreWeights.j0 k a0 a1 a2 a3 a4 t727 true) else (lecternlaw21_ScoreWeights.j0 k a0 a1 a2 a3 a4 t727 (decide (a4 > 1099511627776))))))))))))) else (some false))) = some r := h
  clear h
  replace H := Option.bind_eq_some_iff.mp H
  obtain ⟨t726, A60, H⟩ := H
  replace H : (if t726 = true then ((score_Weight.f k a0 a1 a2 a3 a4).bind fun t727 => (if a0 < 0 then (lecternlaw21_ScoreWeights.j0 k a0 a1 a2 a3 a4 t727 true) else (if a0 ≥ 1099511627776 then (lecternlaw21_ScoreWeights.j0 k a0 a1 a2 a3 a4 t727 true) else (if a1 < 1 then (lecternlaw21_ScoreWeights.j0 k a0 a1 a2 a3 a4 t727 true) else (if a1 ≥ 1048576 then (lecternlaw21_ScoreWeights.j0 k a0 a1 a2 a3 a4 t727 true) else (if a2 < 1 then (lecternlaw21_ScoreWeights.j0 k a0 a1 a2 a3 a4 t727 true) else (if a2 ≥ 1048576 then (lecternlaw21_ScoreWeights.j0 k a0 a1 a2 a3 a4 t727 true) else (if a3 < 1 then (lecternlaw21_ScoreWeights.j0 k a0 a1 a2 a3 a4 t727 true) else (if a3 > 1048576 then (lecternlaw21_ScoreWeights.j0 k a0 a1 a2 a3 a4 t727 true) else (if a4 < 1 then (lecternlaw21_ScoreWeights.j0 k a0 a1 a2 a3 a4 t727 true) else (lecternlaw21_ScoreWeights.j0 k a0 a1 a2 a3 a4 t727 (decide (a4 > 1099511627776))))))))))))) else (some false)) = some r := H
  have A6 := Aside0.mk A60
  clear A60
  by_cases c7 : t726 = true
  · subst c7
    have H1 : ((score_Weight.f k a0 a1 a2 a3 a4).bind fun t727 => (if a0 < 0 then (lecternlaw21_ScoreWeights.j0 k a0 a1 a2 a3 a4 t727 true) else (if a0 ≥ 1099511627776 then (lecternlaw21_ScoreWeights.j0 k a0 a1 a2 a3 a4 t727 true) else (if a1 < 1 then (lecternlaw21_ScoreWeights.j0 k a0 a1 a2 a3 a4 t727 true) else (if a1 ≥ 1048576 then (lecternlaw21_ScoreWeights.j0 k a0 a1 a2 a3 a4 t727 true) else (if a2 < 1 then (lecternlaw21_ScoreWeights.j0 k a0 a1 a2 a3 a4 t727 true) else (if a2 ≥ 1048576 then (lecternlaw21_ScoreWeights.j0 k a0 a1 a2 a3 a4 t727 true) else (if a3 < 1 then (lecternlaw21_ScoreWeights.j0 k a0 a1 a2 a3 a4 t727 true) else (if a3 > 1048576 then (lecternlaw21_ScoreWeights.j0 k a0 a1 a2 a3 a4 t727 true) else (if a4 < 1 then (lecternlaw21_ScoreWeights.j0 k a0 a1 a2 a3 a4 t727 true) else (lecternlaw21_ScoreWeights.j0 k a0 a1 a2 a3 a4 t727 (decide (a4 > 1099511627776))))))))))))) = some r := by rw [if_pos rfl] at H; exact H
    clear H
    have H := H1
    clear H1
    replace H := Option.bind_eq_some_iff.mp H
    obtain ⟨t727, A80, H⟩ := H
    replace H : (if a0 < 0 then (lecternlaw21_ScoreWeights.j0 k a0 a1 a2 a3 a4 t727 true) else (if a0 ≥ 1099511627776 then (lecternlaw21_ScoreWeights.j0 k a0 a1 a2 a3 a4 t727 true) else (if a1 < 1 then (lecternlaw21_ScoreWeights.j0 k a0 a1 a2 a3 a4 t727 true) else (if a1 ≥ 1048576 then (lecternlaw21_ScoreWeights.j0 k a0 a1 a2 a3 a4 t727 true) else (if a2 < 1 then (lecternlaw21_ScoreWeights.j0 k a0 a1 a2 a3 a4 t727 true) else (if a2 ≥ 1048576 then (lecternlaw21_ScoreWeights.j0 k a0 a1 a2 a3 a4 t727 true) else (if a3 < 1 then (lecternlaw21_ScoreWeights.j0 k a0 a1 a2 a3 a4 t727 true) else (if a3 > 1048576 then (lecternlaw21_ScoreWeights.j0 k a0 a1 a2 a3 a4 t727 true) else (if a4 < 1 then (lecternlaw21_ScoreWeights.j0 k a0 a1 a2 a3 a4 t727 true) else (lecternlaw21_ScoreWeights.j0 k a0 a1 a2 a3 a4 t727 (decide (a4 > 1099511627776)))))))))))) = some r := H
    have A8 := Aside0.mk A80
    clear A80
    have HC9 := Aside0.mk H
    clear H
    go_enter Tryz.func3, Tryz.ntmps3
    go_upto_region 4 with (first | ((with_reducible refine gate_callee (f := 5) rfl ?_); refine goesL_ (some 12) rfl rfl Tryz.func5 (by kernel_rfl) rfl #[] rfl (by (try simp only [List.map_toArray, List.map_cons, List.map_nil]); first | done | rfl | (simp only [List.length_drop, List.length_take]; rfl)) ?_; (with_reducible refine (lecternlaw21_known.calls true w hT A6.out).mono ?_); rintro e w' ⟨rfl, hkn⟩; refine ⟨_, rfl, ?_⟩) | ((with_reducible refine gate_callee (f := 6) rfl ?_); refine goesL_ (some 19) rfl rfl Tryz.func6 (by kernel_rfl) rfl #[.int .i64 a0, .int .i64 a1, .int .i64 a2, .int .i64 a3, .int .i64 a4] rfl (by (try simp only [List.map_toArray, List.map_cons, List.map_nil]); first | done | rfl | (simp only [List.length_drop, List.length_take]; rfl)) ?_; (with_reducible refine (score_Weight.calls k a0 a1 a2 a3 a4 t727 _ A8.out).mono ?_); rintro e w' ⟨rfl, ⟨nd, rfl⟩⟩; refine ⟨_, rfl, ?_⟩))
    (try simp only [Act.put, List.setIfInBounds_toArray, List.set_cons_zero, List.set_cons_succ])
    go_cut [57] (fun v57 wc => ∃ (kq : Nat) (x57_8 : Bool), v57 = .bool x57_8 ∧ Aside0 (lecternlaw21_ScoreWeights.j0 kq a0 a1 a2 a3 a4 t727 x57_8 = some r) ∧ Aside0 (kq ≤ k) ∧ Kn w wc)
    case first =>
      have H := HC9.out
      clear HC9
      by_cases c10 : a0 < 0
      · rw [if_pos c10] at H
        have c10b0 : decide (a0 < 0) = true := decide_eq_true c10
        clear c10
        (first | rw [c10b0] | (simp only [i64_w, i32_w]; rw [c10b0]) | skip)
        have H' := Aside0.mk H
        clear H
        go_wp2
        go_meet
        case rel => exact ⟨_, (true), (by first | rfl | (simp; done) | (simp [*]; done)), H', ⟨by first | omega | exact Nat.le_refl _⟩, by repeat (first | assumption | exact Kn.refl _ | apply Kn.step)⟩
      · rw [if_neg c10] at H
        have c10b0 : decide (a0 < 0) = false := decide_eq_false c10
        clear c10
        (first | rw [c10b0] | (simp only [i64_w, i32_w]; rw [c10b0]) | skip)
        by_cases c11 : a0 ≥ 1099511627776
        · rw [if_pos c11] at H
          have c11b0 : decide (1099511627776 ≤ a0) = true := decide_eq_true c11
          clear c11
          have H' := Aside0.mk H
          clear H
          go_wp2
          go_meet
          case rel => exact ⟨_, (true), (by first | rfl | (simp; done) | (simp [*]; done)), H', ⟨by first | omega | exact Nat.le_refl _⟩, by repeat (first | assumption | exact Kn.refl _ | apply Kn.step)⟩
        · rw [if_neg c11] at H
          have c11b0 : decide (1099511627776 ≤ a0) = false := decide_eq_false c11
          clear c11
          by_cases c12 : a1 < 1
          · rw [if_pos c12] at H
            have c12b0 : decide (a1 < 1) = true := decide_eq_true c12
            clear c12
            have H' := Aside0.mk H
            clear H
            go_wp2
            go_meet
            case rel => exact ⟨_, (true), (by first | rfl | (simp; done) | (simp [*]; done)), H', ⟨by first | omega | exact Nat.le_refl _⟩, by repeat (first | assumption | exact Kn.refl _ | apply Kn.step)⟩
          · rw [if_neg c12] at H
            have c12b0 : decide (a1 < 1) = false := decide_eq_false c12
            clear c12
            by_cases c13 : a1 ≥ 1048576
            · rw [if_pos c13] at H
              have c13b0 : decide (1048576 ≤ a1) = true := decide_eq_true c13
              clear c13
              have H' := Aside0.mk H
              clear H
              go_wp2
              go_meet
              case rel => exact ⟨_, (true), (by first | rfl | (simp; done) | (simp [*]; done)), H', ⟨by first | omega | exact Nat.le_refl _⟩, by repeat (first | assumption | exact Kn.refl _ | apply Kn.step)⟩
            · rw [if_neg c13] at H
              have c13b0 : decide (1048576 ≤ a1) = false := decide_eq_false c13
              clear c13
              by_cases c14 : a2 < 1
              · rw [if_pos c14] at H
                have c14b0 : decide (a2 < 1) = true := decide_eq_true c14
                clear c14
                have H' := Aside0.mk H
                clear H
                go_wp2
                go_meet
                case rel => exact ⟨_, (true), (by first | rfl | (simp; done) | (simp [*]; done)), H', ⟨by first | omega | exact Nat.le_refl _⟩, by repeat (first | assumption | exact Kn.refl _ | apply Kn.step)⟩
              · rw [if_neg c14] at H
                have c14b0 : decide (a2 < 1) = false := decide_eq_false c14
                clear c14
                by_cases c15 : a2 ≥ 1048576
                · rw [if_pos c15] at H
                  have c15b0 : decide (1048576 ≤ a2) = true := decide_eq_true c15
                  clear c15
                  have H' := Aside0.mk H
                  clear H
                  go_wp2
                  go_meet
                  case rel => exact ⟨_, (true), (by first | rfl | (simp; done) | (simp [*]; done)), H', ⟨by first | omega | exact Nat.le_refl _⟩, by repeat (first | assumption | exact Kn.refl _ | apply Kn.step)⟩
                · rw [if_neg c15] at H
                  have c15b0 : decide (1048576 ≤ a2) = false := decide_eq_false c15
                  clear c15
                  by_cases c16 : a3 < 1
                  · rw [if_pos c16] at H
                    have c16b0 : decide (a3 < 1) = true := decide_eq_true c16
                    clear c16
                    have H' := Aside0.mk H
                    clear H
                    go_wp2
                    go_meet
                    case rel => exact ⟨_, (true), (by first | rfl | (simp; done) | (simp [*]; done)), H', ⟨by first | omega | exact Nat.le_refl _⟩, by repeat (first | assumption | exact Kn.refl _ | apply Kn.step)⟩
                  · rw [if_neg c16] at H
                    have c16b0 : decide (a3 < 1) = false := decide_eq_false c16
                    clear c16
                    by_cases c17 : a3 > 1048576
                    · rw [if_pos c17] at H
                      have c17b0 : decide (1048576 < a3) = true := decide_eq_true c17
                      clear c17
                      have H' := Aside0.mk H
                      clear H
                      go_wp2
                      go_meet
                      case rel => exact ⟨_, (true), (by first | rfl | (simp; done) | (simp [*]; done)), H', ⟨by first | omega | exact Nat.le_refl _⟩, by repeat (first | assumption | exact Kn.refl _ | apply Kn.step)⟩
                    · rw [if_neg c17] at H
                      have c17b0 : decide (1048576 < a3) = false := decide_eq_false c17
                      clear c17
                      by_cases c18 : a4 < 1
                      · rw [if_pos c18] at H
                        have c18b0 : decide (a4 < 1) = true := decide_eq_true c18
                        clear c18
                        have H' := Aside0.mk H
                        clear H
                        go_wp2
                        go_meet
                        case rel => exact ⟨_, (true), (by first | rfl | (simp; done) | (simp [*]; done)), H', ⟨by first | omega | exact Nat.le_refl _⟩, by repeat (first | assumption | exact Kn.refl _ | apply Kn.step)⟩
                      · rw [if_neg c18] at H
                        have c18b0 : decide (a4 < 1) = false := decide_eq_false c18
                        clear c18
                        have H' := Aside0.mk H
                        clear H
                        go_wp2
                        go_meet
                        case rel => exact ⟨_, (decide (a4 > 1099511627776)), (by first | rfl | (simp; done) | (simp [*]; done)), H', ⟨by first | omega | exact Nat.le_refl _⟩, by repeat (first | assumption | exact Kn.refl _ | apply Kn.step)⟩
    case rest =>
      clear HC9
      try clear c1
      try clear p2
      try clear c3
      try clear c5
      try clear c6
      try clear c7
      try clear c10
      try clear c10b0
      try clear c11
      try clear c11b0
      try clear c12
      try clear c12b0
      try clear c13
      try clear c13b0
      try clear c14
      try clear c14b0
      try clear c15
      try clear c15b0
      try clear c16
      try clear c16b0
      try clear c17
      try clear c17b0
      try clear c18
      try clear c18b0
      obtain ⟨kq, x57_8, rfl, HA, HJ8, hkm8⟩ := hcut
      cases kq with
      | zero => exact absurd HA.out (by simp [lecternlaw21_ScoreWeights.j0])
      | succ kj8 =>
        have H := HA.out
        clear HA
        simp only [lecternlaw21_ScoreWeights.j0] at H
        by_cases c19 : x57_8 = true
        · subst c19
          have H1 : (some (decide (t727 ≥ 0))) = some r := by rw [if_pos rfl] at H; exact H
          clear H
          have H := H1
          clear H1
          obtain rfl := Option.some.inj H
          go_wp2
          go_ret
          exact ⟨by first | rfl | (simp; done) | (simp [*]; done), by repeat (first | assumption | exact Kn.refl _ | apply Kn.step)⟩
        · replace c19 := Bool.eq_false_iff.mpr c19
          subst c19
          have H1 : (if t727 ≥ 0 then ((score_Weight.f kj8 (wrap64 (a0 + 1)) a1 a2 a3 a4).bind fun t728 => (if t728 ≥ t727 then ((score_Weight.f kj8 a0 (wrap64 (a1 + 1)) a2 a3 a4).bind fun t729 => (if t729 ≥ t727 then ((score_Weight.f kj8 a0 a1 (wrap64 (a2 + 1)) a3 a4).bind fun t730 => (if t730 ≤ t727 then (some (decide (t727 ≤ (wrap64 (Int.tdiv (wrap64 (a0 * 22)) 10))))) else (some false))) else (some false))) else (some false))) else (some false)) = some r := by rw [if_neg (show ¬ (false = true) by decide)] at H; exact H
          clear H
          have H := H1
          clear H1
          by_cases c20 : t727 ≥ 0
          · rw [if_pos c20] at H
            have c20b0 : decide (0 ≤ t727) = true := decide_eq_true c20
            clear c20
            replace H := Option.bind_eq_some_iff.mp H
            obtain ⟨t728, A210, H⟩ := H
            replace H : (if t728 ≥ t727 then ((score_Weight.f kj8 a0 (wrap64 (a1 + 1)) a2 a3 a4).bind fun t729 => (if t729 ≥ t727 then ((score_Weight.f kj8 a0 a1 (wrap64 (a2 + 1)) a3 a4).bind fun t730 => (if t730 ≤ t727 then (some (decide (t727 ≤ (wrap64 (Int.tdiv (wrap64 (a0 * 22)) 10))))) else (some false))) else (some false))) else (some false)) = some r := H
            have A21 := Aside0.mk A210
            clear A210
            by_cases c22 : t728 ≥ t727
            · rw [if_pos c22] at H
              have c22b0 : decide (t727 ≤ t728) = true := decide_eq_true c22
              clear c22
              replace H := Option.bind_eq_some_iff.mp H
              obtain ⟨t729, A230, H⟩ := H
              replace H : (if t729 ≥ t727 then ((score_Weight.f kj8 a0 a1 (wrap64 (a2 + 1)) a3 a4).bind fun t730 => (if t730 ≤ t727 then (some (decide (t727 ≤ (wrap64 (Int.tdiv (wrap64 (a0 * 22)) 10))))) else (some false))) else (some false)) = some r := H
              have A23 := Aside0.mk A230
              clear A230
              by_cases c24 : t729 ≥ t727
              · rw [if_pos c24] at H
                have c24b0 : decide (t727 ≤ t729) = true := decide_eq_true c24
                clear c24
                replace H := Option.bind_eq_some_iff.mp H
                obtain ⟨t730, A250, H⟩ := H
                replace H : (if t730 ≤ t727 then (some (decide (t727 ≤ (wrap64 (Int.tdiv (wrap64 (a0 * 22)) 10))))) else (some false)) = some r := H
                have A25 := Aside0.mk A250
                clear A250
                by_cases c26 : t730 ≤ t727
                · rw [if_pos c26] at H
                  have c26b0 : decide (t730 ≤ t727) = true := decide_eq_true c26
                  clear c26
                  obtain rfl := Option.some.inj H
                  go_wp2_with (first | (go_at_call 6; (with_reducible refine (score_Weight.calls kj8 (wrap64 (a0 + 1)) a1 a2 a3 a4 t728 _ A21.out).mono ?_); rintro e w' ⟨rfl, ⟨nd, rfl⟩⟩) | (go_at_call 6; (with_reducible refine (score_Weight.calls kj8 a0 (wrap64 (a1 + 1)) a2 a3 a4 t729 _ A23.out).mono ?_); rintro e w' ⟨rfl, ⟨nd, rfl⟩⟩) | (go_at_call 6; (with_reducible refine (score_Weight.calls kj8 a0 a1 (wrap64 (a2 + 1)) a3 a4 t730 _ A25.out).mono ?_); rintro e w' ⟨rfl, ⟨nd, rfl⟩⟩))
                  go_ret
                  exact ⟨by first | rfl | (simp; done) | (simp [*]; done), by repeat (first | assumption | exact Kn.refl _ | apply Kn.step)⟩
                · rw [if_neg c26] at H
                  have c26b0 : decide (t730 ≤ t727) = false := decide_eq_false c26
                  clear c26
                  obtain rfl := Option.some.inj H
                  go_wp2_with (first | (go_at_call 6; (with_reducible refine (score_Weight.calls kj8 (wrap64 (a0 + 1)) a1 a2 a3 a4 t728 _ A21.out).mono ?_); rintro e w' ⟨rfl, ⟨nd, rfl⟩⟩) | (go_at_call 6; (with_reducible refine (score_Weight.calls kj8 a0 (wrap64 (a1 + 1)) a2 a3 a4 t729 _ A23.out).mono ?_); rintro e w' ⟨rfl, ⟨nd, rfl⟩⟩) | (go_at_call 6; (with_reducible refine (score_Weight.calls kj8 a0 a1 (wrap64 (a2 + 1)) a3 a4 t730 _ A25.out).mono ?_); rintro e w' ⟨rfl, ⟨nd, rfl⟩⟩))
                  go_ret
                  exact ⟨by first | rfl | (simp; done) | (simp [*]; done), by repeat (first | assumption | exact Kn.refl _ | apply Kn.step)⟩
              · rw [if_neg c24] at H
                have c24b0 : decide (t727 ≤ t729) = false := decide_eq_false c24
                clear c24
                obtain rfl := Option.some.inj H
                go_wp2_with (first | (go_at_call 6; (with_reducible refine (score_Weight.calls kj8 (wrap64 (a0 + 1)) a1 a2 a3 a4 t728 _ A21.out).mono ?_); rintro e w' ⟨rfl, ⟨nd, rfl⟩⟩) | (go_at_call 6; (with_reducible refine (score_Weight.calls kj8 a0 (wrap64 (a1 + 1)) a2 a3 a4 t729 _ A23.out).mono ?_); rintro e w' ⟨rfl, ⟨nd, rfl⟩⟩))
                go_ret
                exact ⟨by first | rfl | (simp; done) | (simp [*]; done), by repeat (first | assumption | exact Kn.refl _ | apply Kn.step)⟩
            · rw [if_neg c22] at H
              have c22b0 : decide (t727 ≤ t728) = false := decide_eq_false c22
              clear c22
              obtain rfl := Option.some.inj H
              go_wp2_with (first | (go_at_call 6; (with_reducible refine (score_Weight.calls kj8 (wrap64 (a0 + 1)) a1 a2 a3 a4 t728 _ A21.out).mono ?_); rintro e w' ⟨rfl, ⟨nd, rfl⟩⟩))
              go_ret
              exact ⟨by first | rfl | (simp; done) | (simp [*]; done), by repeat (first | assumption | exact Kn.refl _ | apply Kn.step)⟩
          · rw [if_neg c20] at H
            have c20b0 : decide (0 ≤ t727) = false := decide_eq_false c20
            clear c20
            obtain rfl := Option.some.inj H
            go_wp2
            go_ret
            exact ⟨by first | rfl | (simp; done) | (simp [*]; done), by repeat (first | assumption | exact Kn.refl _ | apply Kn.step)⟩
  · replace c7 := Bool.eq_false_iff.mpr c7
    subst c7
    have H1 : (some false) = some r := by rw [if_neg (show ¬ (false = true) by decide)] at H; exact H
    clear H
    have H := H1
    clear H1
    obtain rfl := Option.some.inj H
    go_enter Tryz.func3, Tryz.ntmps3
    go_wp2_with (first | ((with_reducible refine gate_callee (f := 5) rfl ?_); refine goesL_ (some 12) rfl rfl Tryz.func5 (by kernel_rfl) rfl #[] rfl (by (try simp only [List.map_toArray, List.map_cons, List.map_nil]); first | done | rfl | (simp only [List.length_drop, List.length_take]; rfl)) ?_; (with_reducible refine (lecternlaw21_known.calls false w hT A6.out).mono ?_); rintro e w' ⟨rfl, hkn⟩; refine ⟨_, rfl, ?_⟩))
    go_ret
    exact ⟨by first | rfl | (simp; done) | (simp [*]; done), by repeat (first | assumption | exact Kn.refl _ | apply Kn.step)⟩

/-- THE ONE PURE STATEMENT of lecternlaw21_ScoreWeights: yours. -/
def lecternlaw21_ScoreWeights.Pure : Prop := ∀ (a0 : Int) (a1 : Int) (a2 : Int) (a3 : Int) (a4 : Int), (Lit.int .i64 a0).wf = true → (Lit.int .i64 a1).wf = true → (Lit.int .i64 a2).wf = true → (Lit.int .i64 a3).wf = true → (Lit.int .i64 a4).wf = true → ∃ k, lecternlaw21_ScoreWeights.f k a0 a1 a2 a3 a4 = some true
theorem lecternlaw21_ScoreWeights.walk (P : lecternlaw21_ScoreWeights.Pure) (a0 : Int) (a1 : Int) (a2 : Int) (a3 : Int) (a4 : Int) (w : World) (hT : HasTab w) (w0 : (Lit.int .i64 a0).wf = true) (w1 : (Lit.int .i64 a1).wf = true) (w2 : (Lit.int .i64 a2).wf = true) (w3 : (Lit.int .i64 a3).wf = true) (w4 : (Lit.int .i64 a4).wf = true) :
    Calls Tryz.prog 3 #[.int .i64 a0, .int .i64 a1, .int .i64 a2, .int .i64 a3, .int .i64 a4] w fun e w' => e = .returned (.bool true) ∧ Below w.heap.size w w' := by
  obtain ⟨k, h⟩ := P a0 a1 a2 a3 a4 w0 w1 w2 w3 w4
  refine (lecternlaw21_ScoreWeights.calls k a0 a1 a2 a3 a4 true w hT h).mono ?_
  rintro e w' ⟨rfl, hd⟩
  exact ⟨rfl, hd⟩

end Go.Proofs.YtgkeemjadjnhkaaGreatDoor.PScore
