/- Sums and products never wrap: for whatever two numbers the law ScoreHeld returns true; the row, and its tied card. -/
import Derived.Test.YtgkeemjadjnhkaaGreatDoorLaid
import Derived.Test.YtgkeemjadjnhkaaGreatDoorPureScoreHeld
import Derived.Test.YtgkeemjadjnhkaaGreatDoorCards
import Derived.Test.YtgkeemjadjnhkaaGreatDoorTie
import Derived.Test.YtgkeemjadjnhkaaGreatDoorFactScoreHeldA
import Derived.Test.YtgkeemjadjnhkaaGreatDoorFactScoreHeldB
import Derived.Test.YtgkeemjadjnhkaaGreatDoorFactScoreHeldC
import Derived.Test.YtgkeemjadjnhkaaGreatDoorFactScoreHeldD
import Derived.Test.YtgkeemjadjnhkaaGreatDoorGoes
import Derived.WalkKit
import Derived.ProofKit
import Derived.OpenShut
import Derived.ChangeOld
import Derived.Below
import Derived.SizedLaws
import Derived.SevenTiedAt
namespace Go.Proofs.YtgkeemjadjnhkaaGreatDoor.scoreHeld
open Go Go.ChangeShapes Go.WideShapes Go.ChangeAt Go.RowKit
set_option linter.unusedVariables false
theorem own : ownKnob Tryz.prog.godebug = none := by kernel_rfl
set_option maxRecDepth 100000 in
theorem lifted (os : Os) (started : os.Started) (H : Type) (enc : TypeId × Value → H) :
    ReturnsInHanded {} Tryz.checked os 4 .any (fun w args => (Rows.scoreHeldSpec.pre enc Tryz.prog Tryz.f4 [] false w args ∧ laidMet Tryz.prog laidVars w) ∧ sizedMet enc Tryz.prog Tryz.f4 (OpenSpec.ofChange Rows.scoreHeldSpec) false w args)
      (Rows.scoreHeldSpec.post enc Tryz.prog Tryz.f4 false true false false) := by
  refine returnsInHanded_of_change_and (C := Tryz.checked) (X := fun w _ => laidMet Tryz.prog laidVars w) (fun _ _ _ hh h => h.of_heap hh) own started (by kernel_rfl) Tryz.func4
    (ChangeSpec.witness_at (enc := enc) (C := Tryz.checked) (os := os) (X := fun w _ => laidMet Tryz.prog laidVars w) false (laidWorld os) #[.int .i64 0, .int .i64 0] 8 rfl (by kernel_rfl) (by kernel_rfl) (by kernel_rfl) (by kernel_rfl) (by kernel_rfl) (laidWorld_met os _)) ?_
  intro W base args ds gs before hval0 hW hcnd hsz0 hL _
  have hval : ∀ (j : Nat) t v, Tryz.f4.params[j]? = some t → args[j]? = some v → Value.okWide Tryz.prog W .any base t v := hval0
  have hW' := hW
  obtain ⟨p, q, hA0, hV, rfl, hfz, hnd⟩ := hW
  have hA : DataW.TrodAll enc Tryz.prog W 0 (fun _ => true) true Tryz.f4.params.toList args.toList ds p := hA0
  rw [Tryz.params4] at hA hval
  obtain ⟨v0, v1, d0, d1, p0, p1, rfl, rfl, rfl, h0, h1⟩ := trodAll_two hA
  obtain ⟨rfl, rfl⟩ := trodVars_none hV
  obtain ⟨a0, rfl, rfl, rfl, w0⟩ := open_int Tryz.underlying2 (hval 0 2 v0 rfl rfl) h0
  obtain ⟨a1, rfl, rfl, rfl, w1⟩ := open_int Tryz.underlying2 (hval 1 2 v1 rfl rfl) h1
  clear hA0 hval0 hsz0
  simp only [List.append_nil] at hW'
  refine (PScore.lecternlaw21_ScoreHeld.walk Pure.ScoreHeld a0 a1 W (hasTab_of_laid hL) w0 w1).mono fun e W' ⟨he, bel⟩ => ?_
  subst he
  exact ⟨_, rfl, _, _, _, [], _, [], hW', trodAll_mk1 (shut_bool Tryz.underlying4 _), (trodAll_cons_mk (shut_int Tryz.underlying2 w0) (trodAll_cons_mk (shut_int Tryz.underlying2 w1) trodAll_mk0)), rfl, bel.frame _, fun h => by cases h⟩
theorem two {a b : Bool} (h : a = true) (k : b = true) : (a && b) = true := by rw [h, k]; rfl
theorem fRec : (Rows.scoreHeldRow.recurses == Tryz.prog.recurses 4) = true := by
  unfold Program.recurses
  rw [fC]
  rfl
theorem fUn : (Rows.scoreHeldRow.unfollowed == Tryz.prog.unfollowed 4) = true := by
  rw [fC]
  rfl
theorem closed : joinedFacts Tryz.prog 4 Tryz.f4 Rows.scoreHeldSpec Rows.scoreHeldRow = true := by
  unfold joinedFacts
  refine two ?_ (by kernel_rfl)
  refine two ?_ (by kernel_rfl)
  refine two ?_ (by kernel_rfl)
  refine two ?_ (by kernel_rfl)
  refine two ?_ (by kernel_rfl)
  refine two ?_ (by kernel_rfl)
  refine two ?_ (by kernel_rfl)
  refine two ?_ (by kernel_rfl)
  refine two ?_ (by kernel_rfl)
  refine two ?_ (by kernel_rfl)
  refine two ?_ (by kernel_rfl)
  refine two ?_ (by kernel_rfl)
  refine two ?_ (by kernel_rfl)
  refine two ?_ (by kernel_rfl)
  refine two ?_ (by kernel_rfl)
  refine two ?_ (by kernel_rfl)
  refine two ?_ (by kernel_rfl)
  refine two ?_ (by kernel_rfl)
  refine two ?_ (by kernel_rfl)
  refine two ?_ fD
  refine two ?_ fRec
  refine two ?_ fUn
  refine two ?_ fB
  refine two ?_ (by kernel_rfl)
  refine two ?_ (by kernel_rfl)
  refine two ?_ (by kernel_rfl)
  refine two ?_ (by kernel_rfl)
  refine two ?_ (by kernel_rfl)
  refine two ?_ (by kernel_rfl)
  exact fA
theorem over : Rows.scoreHeldRow.holds Tryz.pinned (OpenSpec.ofChange Rows.scoreHeldSpec) :=
  OpenClaim.holds_of_wide 4 Tryz.f4 rfl rfl rfl rfl rfl rfl rfl ⟨rfl, rfl, rfl, rfl, rfl⟩ rfl rfl rfl rfl rfl (by kernel_rfl) Tryz.func4 closed
    (of_decide_eq_true (by kernel_rfl)) (by unfold Func.isWrapper; first | (rw [if_pos (by decide +kernel)]; kernel_rfl) | (rw [if_neg (by decide +kernel)]; exact ⟨rfl, rfl⟩))
    (fun os started H enc _ => lifted os started H enc)
theorem proved : Rows.ScoreHeldSaid := over
#print axioms proved
theorem card : Rows.ScoreHeldCardSaid :=
  Claim7.holds_tied_plain_at .later [] [.data, .data, .data, .data, .sentinel, .sentinel, .pinned] true (true, "763eabac8125be6e0bfd570a49bbb8ee9313a91718cf42fc50c5288e8b631911") true
    proved (fun _ h => by cases h) (by kernel_rfl) (fun _ h => by cases h) scoreHeld_row_tie rfl ⟨rfl, rfl⟩ (by kernel_rfl) rfl
    (fun f fn hf hfn => by
      obtain rfl : f = 4 := Option.some.inj ((show Tryz.prog.funcNamed "lectern/lecternlaw21.ScoreHeld" = some 4 by kernel_rfl).symm.trans hf) |>.symm
      obtain rfl : fn = Tryz.f4 := (Option.some.inj (Tryz.func4.symm.trans hfn)).symm
      exact ⟨by kernel_rfl, fun j t ht => by
        rw [Tryz.params4] at ht
        have h2 : t = 2 := by
          rcases j with _ | _ | j
          · simpa using ht.symm
          · simpa using ht.symm
          · simp at ht
        subst h2
        exact (show Tryz.prog.wantsStandIn 2 = false by kernel_rfl)⟩)
    (goesBy_none noneGoes rfl)
#print axioms card
end Go.Proofs.YtgkeemjadjnhkaaGreatDoor.scoreHeld
namespace Go.Proofs.YtgkeemjadjnhkaaGreatDoor
/-- The tied card, under a short name, for the claim. -/
theorem scoreHeld_holds : Rows.ScoreHeldCardSaid := scoreHeld.card
end Go.Proofs.YtgkeemjadjnhkaaGreatDoor
