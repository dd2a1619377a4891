/- A region that is walked as everywhere may stand in the body of a loop over an iterator (at the wide fence). -/
import Derived.RangeFuncNested
import Derived.RangeFuncBound
import Derived.RangeFuncCalls
import Derived.RangeFuncLeaves
import Derived.RangeFuncBox
import Derived.Shelf.Abstract
import Derived.WalkKit
import Derived.OwnWalkIn
import Derived.TacticsInMore
import Derived.LoopNIn
import Derived.LoopIn
namespace Go.Proofs.YtonolmddjifgjaaBridge
open Go Go.RowKit

def noDefer (o : Oper) : Bool := match o.op with | .defer _ => false | _ => true
theorem noDefer_ne {o : Oper} (h : noDefer o = true) (c : Call) : o.op ≠ .defer c := by
  intro e
  unfold noDefer at h
  rw [e] at h
  cases h

theorem rowsIn_wide {n : Nat} {P : Program} {row : String} {args : Array Value} {w : World} {R : Value → World → Prop} (h : Rows P row args w R) : RowsIn Fence.wide n P row args w R :=
  fun c cs _ => let ⟨v, w', r, s⟩ := h c cs; ⟨v, w', r, stepsIn_wide.2 s⟩

/-- One operation. -/
theorem uponIn_of_upon {P : Program} {l n : Nat} {o : Oper} {a : Act} {K : Act → World → Prop} {Q : Exit → Act → World → Prop} (r : Result Next)
    (h : o.upon P a K Q r) : o.uponIn (Fence.wide.inRound l) n P a K Q r := by
  cases r with
  | ok x w' =>
    cases x with
    | value v => exact h
    | skip => exact h
    | defer d => exact h
    | enter f args =>
      refine ⟨fun hd => by simp [Fence.wide] at hd, ?_⟩
      exact CallsIn.inRound l (callsIn_wide.2 h)
    | row row args =>
      refine ⟨fun hd => by simp [Fence.wide] at hd, ?_⟩
      exact rowsIn_wide h
    | _ => exact h.elim
  | halt x w' =>
    cases x with
    | panic v => exact h
    | _ => exact h.elim

theorem upon_mono {P : Program} {o : Oper} {a : Act} {K K' : Act → World → Prop} {Q : Exit → Act → World → Prop} (hk : ∀ a w, K a w → K' a w) (r : Result Next)
    (h : o.upon P a K Q r) : o.upon P a K' Q r := by
  cases r with
  | ok x w' =>
    cases x with
    | value v => exact hk _ _ h
    | skip => exact hk _ _ h
    | defer d => exact hk _ _ h
    | enter f args =>
      refine Calls.mono (R := _) h ?_
      intro e w2 he
      cases e with
      | returned v => exact hk _ _ he
      | panicked c => exact he
      | outgrown => exact he
    | row row args => exact Rows.mono h (fun _ _ he => hk _ _ he)
    | _ => exact h.elim
  | halt x w' =>
    cases x with
    | panic v => exact h
    | _ => exact h.elim

theorem wpListIn_of_wpList {P : Program} {l n : Nat} {ops : Array Oper} {Q : Exit → Act → World → Prop} (hq : ¬ LetsOut Q) : ∀ (rest : List Oper) (a : Act) (w : World), rest.all noDefer = true →
    wpList P ops Q rest a w → wpListIn (Fence.wide.inRound l) n P ops Q rest a w
  | [], _, _, _, h => h
  | o :: rest, a, w, hn, h => by
    simp only [List.all_cons, Bool.and_eq_true] at hn
    unfold wpList at h
    unfold wpListIn
    by_cases c : Region.wanted o (yielded ops a.tmps) = true
    · rw [if_pos c] at h ⊢
      rcases h with h | h
      · refine ⟨fun _ _ => trivial, ?_⟩
        have e : o.semAt (Fence.wide.inRound l).round a.eval = execOp a.eval o := Oper.semAt_some l a.eval o (noDefer_ne hn.1)
        rw [e]
        exact uponIn_of_upon _ (upon_mono (fun a' w' h' => wpListIn_of_wpList hq rest a' w' hn.2 h') _ h)
      · exact absurd h.2 hq
    · rw [if_neg c] at h ⊢
      exact ⟨fun _ _ => trivial, wpListIn_of_wpList hq rest _ w hn.2 h⟩

/-- A region of the body, walked as everywhere; behind it 'K'. -/
theorem region_in {P : Program} {l n id : Nat} {os : List Oper} {Q : Exit → Act → World → Prop} {a : Act} {w : World} (hn : os.all noDefer = true)
    (h : ∀ K : Act → World → Prop, (∀ a' w', Q .normal a' w' → K a' w') → wpList P os.toArray (Exit.then K (fun _ _ _ => False)) os a w) :
    (Code.region id os.toArray false).wpIn (Fence.wide.inRound l) n P Q a w := by
  have h1 := h (fun a' w' => Q .normal a' w') (fun _ _ h => h)
  have h2 : wpListIn (Fence.wide.inRound l) n P os.toArray (Exit.then (fun a' w' => Q .normal a' w') (fun _ _ _ => False)) os a w :=
    wpListIn_of_wpList (by rintro ⟨_, _, h⟩; exact h) os a w hn h1
  refine wpIn_mono (wpIn_region_lit h2) ?_
  intro e a' w' he
  cases e with
  | normal => exact he
  | _ => exact he.elim

end Go.Proofs.YtonolmddjifgjaaBridge
