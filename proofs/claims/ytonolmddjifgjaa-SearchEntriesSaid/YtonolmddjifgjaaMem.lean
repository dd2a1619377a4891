/- Words on rows of the call's own beside boxes, and beside what is no cells (loops' records). -/
import Derived.Test.YtonolmddjifgjaaBridge
import Derived.Test.YtonolmddjifgjaaWApart
import Derived.Test.YtonolmddjifgjaaWMore
namespace Go.Proofs.YtonolmddjifgjaaMem
open Go Go.RowKit Go.Proofs.YtonolmddjifgjaaW.PrintWords Go.Proofs.YtonolmddjifgjaaW.PrintLast Go.Proofs.YtonolmddjifgjaaW.PrintMore

theorem grown_below {W w1 : World} (hb : Below W.heap.size W w1) : W.grownBy w1 none := ⟨hb.os, hb.tape, hb.output, hb.size, fun k hk _ => hb.block k hk⟩
theorem keeps_below {W w1 : World} (hb : Below W.heap.size W w1) : KeepsOthers W w1 := KeepsOthers.of_grownBy (grown_below hb) (fun j o e => by cases e)
section
variable {α : Type} {d : Kd α} {e : Nat} {w w1 : World} {base : Nat} {ok : Nat → Prop} {v : Value} {xs : List α}
/-- None of a row's blocks is a block of another type, nor one that is not the row's own. -/
theorem S_not (h : Kd.S d e w base ok v xs) {g t : Nat} {cells : Array Value} (hb : w.heap[g]? = some (.cells cells t (0, 0))) (ht : ∀ q, q ∈ d.E → q ≠ t) (hv : v.ownBlock ≠ some g) : Kd.S d e w base (fun k => ok k ∧ k ≠ g) v xs := by
  obtain ⟨f, h0, ho⟩ := h
  refine ⟨f, fun k hk => ⟨h0 k hk, fun e => hv (by rw [hk, e])⟩, ho.imp_ (fun p c hp => ?_)⟩
  have h2 := Kd.M_types (d := Kd.tag f d) hp hb ht
  exact (Kd.tag f d).M_mono (fun k hk => ⟨⟨hk.1.1, hk.2⟩, hk.1.2⟩) h2
/-- What is no cells may turn. -/
theorem S_kept (h : Kd.S d e w base ok v xs) {row : Option Nat} (hg : w.grownBy w1 row) (hr : ∀ r, row = some r → ∃ o : Obj, w.heap[r]? = some o ∧ o.isCells = false) : Kd.S d e w1 base ok v xs := by
  have h2 := Kd.S_bound h
  refine Kd.S_mono (Kd.S_step h2 (fun k hk hlt => hg.block k hlt (fun er => ?_))) (fun k hk => hk.1)
  obtain ⟨o, ho, hc⟩ := hr k er.symm
  obtain ⟨_, _, _, q, _, cells, hcc⟩ := hk
  rw [hcc] at ho
  cases ho
  cases hc
end
end Go.Proofs.YtonolmddjifgjaaMem
