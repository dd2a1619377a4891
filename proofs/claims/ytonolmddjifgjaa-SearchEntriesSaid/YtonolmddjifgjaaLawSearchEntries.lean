/- Which entries are for highlighting, whatever the schema, the document and the names: for whatever three arguments the law SearchEntries returns true, and what was handed in reads as it did; no condition. -/
import Derived.Test.YtonolmddjifgjaaRows
import Derived.Test.YtonolmddjifgjaaWalkSearchEntries
import Derived.Test.YtonolmddjifgjaaPureSearchEntries
import Derived.Test.YtonolmddjifgjaaOpen
import Derived.WalkKit
import Derived.ProofKit
import Derived.OpenShut
import Derived.ShutString
import Derived.ChangeOld
import Derived.Carry
import Derived.Below
import Derived.SizedLaws
namespace Go.Proofs.Ytonolmddjifgjaa.searchEntries
open Go.ChangeShapes Go.WideShapes Go.ChangeAt Go.RowKit
open Go.ChangeMaps (open_string shut_string)
set_option linter.unusedVariables false
theorem own : ownKnob Try.prog.godebug = none := by kernel_rfl
theorem laidOut : laidOutB Try.prog = true := by kernel_rfl
set_option maxRecDepth 100000 in
theorem lifted (os : Os) (started : os.Started) (H : Type) (enc : TypeId × Value → H) :
    ReturnsInHanded {} Try.checked os 3 .any (Rows.searchEntriesSpec.pre6 enc Try.prog Try.f3 Rows.searchEntriesRow.domain false) (Rows.searchEntriesSpec.post enc Try.prog Try.f3 false true false false) := by
  refine returnsInHanded_of_change_sized (C := Try.checked) own started (by kernel_rfl) Try.func3
    (ChangeSpec.witness6 (enc := enc) (C := Try.checked) false ⟨#[], #[.agg #[.slice none 0 0], .agg #[.slice none 0 0], .slice none 0 0], []⟩ 8 (by kernel_rfl) (by kernel_rfl) (by kernel_rfl) (by kernel_rfl)) ?_
  intro W base args ds gs before hval0 hW hcnd hsz0 _
  have hsz : (DataW.weightsEach Try.prog (Try.f3.params.toList ++ Rows.searchEntriesSpec.plain.varTypes Try.prog) (ds ++ gs)).all (· ≤ reachBytes) = true := hsz0
  have hval : ∀ (j : Nat) t v, Try.f3.params[j]? = some t → args[j]? = some v → Value.okWide Try.prog W .any base t v := hval0
  have hW' := hW
  obtain ⟨p, q, hA0, hV, rfl, hfz, hnd⟩ := hW
  have hA : DataW.TrodAll enc Try.prog W 0 (fun _ => true) true Try.f3.params.toList args.toList ds p := hA0
  rw [Try.params3] at hA hval hsz
  obtain ⟨v0, vs0, d0, ds0, p0, q0, hargs, rfl, rfl, h0, r0⟩ := trodAll_cons hA
  obtain ⟨v1, vs1, d1, ds1, p1, q1, rfl, rfl, rfl, h1, r1⟩ := trodAll_cons r0
  obtain ⟨v2, vs2, d2, ds2, p2, q2, rfl, rfl, rfl, h2, r2⟩ := trodAll_cons r1
  obtain ⟨rfl, rfl, rfl⟩ := trodAll_nil r2
  obtain rfl : args = #[v0, v1, v2] := by cases args; simp_all
  obtain ⟨rfl, rfl⟩ := trodVars_none hV
  have hall : ∀ (j : Nat) t d, ([24, 27, 28] : List TypeId)[j]? = some t → ([d0, d1, d2] : List (DataW H))[j]? = some d → ∀ n ∈ d.weights Try.prog t, n ≤ reachBytes := by
    intro j t d ht hd n hn
    have hj : j < 3 := (List.getElem?_eq_some_iff.1 ht).1
    have := List.all_eq_true.1 hsz n (DataW.weights_mem_each (j := j) (t := t) (d := d) (by rw [List.getElem?_append_left hj]; exact ht) (by rw [List.getElem?_append_left hj]; exact hd) n hn)
    simpa using this
  have h0k := h0
  have h1k := h1
  have h2k := h2
  have hlt : ∀ x ∈ p0 ++ (p1 ++ (p2 ++ [])) ++ [], x.block < W.heap.size := fun x hx => by simpa using hW'.lt x hx
  obtain ⟨A0, c0, l0, rfl, hc0, hC0, hz0, _⟩ := PEnt.open_schema (hval 0 24 v0 rfl rfl) h0 (hall 0 24 d0 rfl rfl)
  obtain ⟨A1, c1, l1, rfl, hc1, hC1, hz1, hin1⟩ := PEnt.open_doc (hval 1 27 v1 rfl rfl) h1 (hall 1 27 d1 rfl rfl)
  obtain ⟨A2, c2, l2, rfl, hc2, hC2, hz2⟩ := PEnt.open_names (hval 2 28 v2 rfl rfl) h2 (hall 2 28 d2 rfl rfl)
  clear hA0 hval0 hsz0 hsz hall
  have hr : reachBytes = 140737488351232 := by decide
  rw [hr] at hz0 hz1 hz2
  have hin : ∀ e ∈ l1, e.f2.length < 17592186044415 := fun e he => by have := hin1 e he; rw [hr] at this; omega
  obtain ⟨k, k2, r, e1, e2, e3⟩ := PEnt.entries_said l0 l1 l2 (by omega) (by omega) hin (by omega)
  obtain ⟨s, d, g, s1, s2, s3, s4⟩ := PEnt.sample_said
  refine (PEnt.law_walk A0 c0 l0 A1 c1 l1 A2 c2 l2 W hC0 hc0 hC1 hc1 hC2 hc2 (by omega) hin (by omega) k k2 s d g r s1 s2 s3 s4 e1 e2 e3).mono fun e W' ⟨he, bel⟩ => ?_
  subst he
  refine ⟨_, rfl, _, _, _, [], _, [], hW', trodAll_mk1 (shut_bool Try.underlying4 _), (trodAll_cons_mk (Below.trod laidOut (by kernel_rfl) (of_decide_eq_true (by kernel_rfl)) h0k bel (fun x hx => hlt x (by simp [hx]))) (trodAll_cons_mk (Below.trod laidOut (by kernel_rfl) (of_decide_eq_true (by kernel_rfl)) h1k bel (fun x hx => hlt x (by simp [hx]))) (trodAll_cons_mk (Below.trod laidOut (by kernel_rfl) (of_decide_eq_true (by kernel_rfl)) h2k bel (fun x hx => hlt x (by simp [hx]))) trodAll_mk0))), rfl, bel.frame _, fun h => by cases h⟩
theorem over : Rows.searchEntriesRow.holds Try.pinned (OpenSpec.ofChange Rows.searchEntriesSpec) :=
  OpenClaim.holds_of_wide 3 Try.f3 rfl rfl rfl rfl rfl rfl rfl ⟨rfl, rfl, rfl, rfl, rfl⟩ rfl rfl rfl rfl rfl (by kernel_rfl) Try.func3 (by kernel_rfl)
    (of_decide_eq_true (by kernel_rfl)) (by unfold Func.isWrapper; first | (rw [if_pos (by decide +kernel)]; kernel_rfl) | (rw [if_neg (by decide +kernel)]; exact ⟨rfl, rfl⟩))
    (fun os started H enc _ => lifted os started H enc)
theorem proved : Rows.SearchEntriesSaid := over
#print axioms proved
end Go.Proofs.Ytonolmddjifgjaa.searchEntries
namespace Go.Proofs.Ytonolmddjifgjaa
/-- The row, under a short name, for the claim. -/
theorem searchEntries_holds : Rows.SearchEntriesSaid := searchEntries.proved
end Go.Proofs.Ytonolmddjifgjaa
