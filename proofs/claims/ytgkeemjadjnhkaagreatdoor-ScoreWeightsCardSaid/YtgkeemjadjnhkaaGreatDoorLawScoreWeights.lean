/- More worth, or more often, is not less, and a longer document is not more: for whatever five numbers the law ScoreWeights returns true; the row, and its tied card. -/
import Derived.Test.YtgkeemjadjnhkaaGreatDoorLaid
import Derived.Test.YtgkeemjadjnhkaaGreatDoorPureScoreWeights
import Derived.Test.YtgkeemjadjnhkaaGreatDoorCards
import Derived.Test.YtgkeemjadjnhkaaGreatDoorTie
import Derived.Test.YtgkeemjadjnhkaaGreatDoorFactScoreWeightsA
import Derived.Test.YtgkeemjadjnhkaaGreatDoorFactScoreWeightsB
import Derived.Test.YtgkeemjadjnhkaaGreatDoorFactScoreWeightsC
import Derived.Test.YtgkeemjadjnhkaaGreatDoorFactScoreWeightsD
import Derived.Test.YtgkeemjadjnhkaaGreatDoorGoes
import Derived.WalkKit
import Derived.ProofKit
import Derived.OpenShut
import Derived.ChangeOld
import Derived.Below
import Derived.SizedLaws
import Derived.SevenTiedAt
namespace Go.Proofs.YtgkeemjadjnhkaaGreatDoor.scoreWeights
open Go Go.ChangeShapes Go.WideShapes Go.ChangeAt Go.RowKit
set_option linter.unusedVariables false
theorem own : ownKnob Tryz.prog.godebug = none := by kernel_rfl
set_option maxRecDepth 100000 in
theorem lifted (os : Os) (started : os.Started) (H : Type) (enc : TypeId × Value → H) :
    ReturnsInHanded {} Tryz.checked os 3 .any (fun w args => (Rows.scoreWeightsSpec.pre enc Tryz.prog Tryz.f3 [] false w args ∧ laidMet Tryz.prog laidVars w) ∧ sizedMet enc Tryz.prog Tryz.f3 (OpenSpec.ofChange Rows.scoreWeightsSpec) false w args)
      (Rows.scoreWeightsSpec.post enc Tryz.prog Tryz.f3 false true false false) := by
  refine returnsInHanded_of_change_and (C := Tryz.checked) (X := fun w _ => laidMet Tryz.prog laidVars w) (fun _ _ _ hh h => h.of_heap hh) own started (by kernel_rfl) Tryz.func3
    (ChangeSpec.witness_at (enc := enc) (C := Tryz.checked) (os := os) (X := fun w _ => laidMet Tryz.prog laidVars w) false (laidWorld os) #[.int .i64 0, .int .i64 0, .int .i64 0, .int .i64 0, .int .i64 0] 8 rfl (by kernel_rfl) (by kernel_rfl) (by kernel_rfl) (by kernel_rfl) (by kernel_rfl) (laidWorld_met os _)) ?_
  intro W base args ds gs before hval0 hW hcnd hsz0 hL _
  have hval : ∀ (j : Nat) t v, Tryz.f3.params[j]? = some t → args[j]? = some v → Value.okWide Tryz.prog W .any base t v := hval0
  have hW' := hW
  obtain ⟨p, q, hA0, hV, rfl, hfz, hnd⟩ := hW
  have hA : DataW.TrodAll enc Tryz.prog W 0 (fun _ => true) true Tryz.f3.params.toList args.toList ds p := hA0
  rw [Tryz.params3] at hA hval
  obtain ⟨v0, vs0, d0, ds0, p0, q0, hargs, rfl, rfl, h0, r0⟩ := trodAll_cons hA
  obtain ⟨v1, vs1, d1, ds1, p1, q1, rfl, rfl, rfl, h1, r1⟩ := trodAll_cons r0
  obtain ⟨v2, vs2, d2, ds2, p2, q2, rfl, rfl, rfl, h2, r2⟩ := trodAll_cons r1
  obtain ⟨v3, vs3, d3, ds3, p3, q3, rfl, rfl, rfl, h3, r3⟩ := trodAll_cons r2
  obtain ⟨v4, vs4, d4, ds4, p4, q4, rfl, rfl, rfl, h4, r4⟩ := trodAll_cons r3
  obtain ⟨rfl, rfl, rfl⟩ := trodAll_nil r4
  obtain rfl : args = #[v0, v1, v2, v3, v4] := by cases args; simp_all
  obtain ⟨rfl, rfl⟩ := trodVars_none hV
  obtain ⟨a0, rfl, rfl, rfl, w0⟩ := open_int Tryz.underlying2 (hval 0 2 v0 rfl rfl) h0
  obtain ⟨a1, rfl, rfl, rfl, w1⟩ := open_int Tryz.underlying3 (hval 1 3 v1 rfl rfl) h1
  obtain ⟨a2, rfl, rfl, rfl, w2⟩ := open_int Tryz.underlying3 (hval 2 3 v2 rfl rfl) h2
  obtain ⟨a3, rfl, rfl, rfl, w3⟩ := open_int Tryz.underlying3 (hval 3 3 v3 rfl rfl) h3
  obtain ⟨a4, rfl, rfl, rfl, w4⟩ := open_int Tryz.underlying2 (hval 4 2 v4 rfl rfl) h4
  clear hA0 hval0 hsz0
  simp only [List.append_nil] at hW'
  refine (PScore.lecternlaw21_ScoreWeights.walk PureW.ScoreWeights a0 a1 a2 a3 a4 W (hasTab_of_laid hL) w0 w1 w2 w3 w4).mono fun e W' ⟨he, bel⟩ => ?_
  subst he
  exact ⟨_, rfl, _, _, _, [], _, [], hW', trodAll_mk1 (shut_bool Tryz.underlying4 _), (trodAll_cons_mk (shut_int Tryz.underlying2 w0) (trodAll_cons_mk (shut_int Tryz.underlying3 w1) (trodAll_cons_mk (shut_int Tryz.underlying3 w2) (trodAll_cons_mk (shut_int Tryz.underlying3 w3) (trodAll_cons_mk (shut_int Tryz.underlying2 w4) trodAll_mk0))))), rfl, bel.frame _, fun h => by cases h⟩
theorem two {a b : Bool} (h : a = true) (k : b = true) : (a && b) = true := by rw [h, k]; rfl
theorem fRec : (Rows.scoreWeightsRow.recurses == Tryz.prog.recurses 3) = true := by
  unfold Program.recurses
  rw [fC]
  rfl
theorem fUn : (Rows.scoreWeightsRow.unfollowed == Tryz.prog.unfollowed 3) = true := by
  rw [fC]
  rfl
theorem closed : joinedFacts Tryz.prog 3 Tryz.f3 Rows.scoreWeightsSpec Rows.scoreWeightsRow = true := by
  unfold joinedFacts
  refine two ?_ (by kernel_rfl)
  refine two ?_ (by kernel_rfl)
  refine two ?_ (by kernel_rfl)
  refine two ?_ (by kernel_rfl)
  refine two ?_ (by kernel_rfl)
  refine two ?_ (by kernel_rfl)
  refine two ?_ (by kernel_rfl)
  refine two ?_ (by kernel_rfl)
  refine two ?_ (by kernel_rfl)
  refine two ?_ (by kernel_rfl)
  refine two ?_ (by kernel_rfl)
  refine two ?_ (by kernel_rfl)
  refine two ?_ (by kernel_rfl)
  refine two ?_ (by kernel_rfl)
  refine two ?_ (by kernel_rfl)
  refine two ?_ (by kernel_rfl)
  refine two ?_ (by kernel_rfl)
  refine two ?_ (by kernel_rfl)
  refine two ?_ (by kernel_rfl)
  refine two ?_ fD
  refine two ?_ fRec
  refine two ?_ fUn
  refine two ?_ fB
  refine two ?_ (by kernel_rfl)
  refine two ?_ (by kernel_rfl)
  refine two ?_ (by kernel_rfl)
  refine two ?_ (by kernel_rfl)
  refine two ?_ (by kernel_rfl)
  refine two ?_ (by kernel_rfl)
  exact fA
theorem over : Rows.scoreWeightsRow.holds Tryz.pinned (OpenSpec.ofChange Rows.scoreWeightsSpec) :=
  OpenClaim.holds_of_wide 3 Tryz.f3 rfl rfl rfl rfl rfl rfl rfl ⟨rfl, rfl, rfl, rfl, rfl⟩ rfl rfl rfl rfl rfl (by kernel_rfl) Tryz.func3 closed
    (of_decide_eq_true (by kernel_rfl)) (by unfold Func.isWrapper; first | (rw [if_pos (by decide +kernel)]; kernel_rfl) | (rw [if_neg (by decide +kernel)]; exact ⟨rfl, rfl⟩))
    (fun os started H enc _ => lifted os started H enc)
theorem proved : Rows.ScoreWeightsSaid := over
#print axioms proved
theorem card : Rows.ScoreWeightsCardSaid :=
  Claim7.holds_tied_plain_at .later [] [.data, .data, .data, .data, .sentinel, .sentinel, .pinned] true (true, "763eabac8125be6e0bfd570a49bbb8ee9313a91718cf42fc50c5288e8b631911") true
    proved (fun _ h => by cases h) (by kernel_rfl) (fun _ h => by cases h) scoreWeights_row_tie rfl ⟨rfl, rfl⟩ (by kernel_rfl) rfl
    (fun f fn hf hfn => by
      obtain rfl : f = 3 := Option.some.inj ((show Tryz.prog.funcNamed "lectern/lecternlaw21.ScoreWeights" = some 3 by kernel_rfl).symm.trans hf) |>.symm
      obtain rfl : fn = Tryz.f3 := (Option.some.inj (Tryz.func3.symm.trans hfn)).symm
      exact ⟨by kernel_rfl, fun j t ht => by
        rw [Tryz.params3] at ht
        have h2 : t = 2 ∨ t = 3 := by
          rcases j with _ | _ | _ | _ | _ | j
          · exact Or.inl (by simpa using ht.symm)
          · exact Or.inr (by simpa using ht.symm)
          · exact Or.inr (by simpa using ht.symm)
          · exact Or.inr (by simpa using ht.symm)
          · exact Or.inl (by simpa using ht.symm)
          · simp at ht
        rcases h2 with rfl | rfl
        · exact (show Tryz.prog.wantsStandIn 2 = false by kernel_rfl)
        · exact (show Tryz.prog.wantsStandIn 3 = false by kernel_rfl)⟩)
    (goesBy_none noneGoes rfl)
#print axioms card
end Go.Proofs.YtgkeemjadjnhkaaGreatDoor.scoreWeights
namespace Go.Proofs.YtgkeemjadjnhkaaGreatDoor
/-- The tied card, under a short name, for the claim. -/
theorem scoreWeights_holds : Rows.ScoreWeightsCardSaid := scoreWeights.card
end Go.Proofs.YtgkeemjadjnhkaaGreatDoor
