/- Printed by tools/more.py (a program of this session's own, over the print.py of the kit) out of the translation. -/
import Derived.Test.YtonolmddjifgjaaEnt0
import Derived.Test.YtonolmddjifgjaaEnt12
import Derived.Test.YtonolmddjifgjaaEnt19
namespace Go.Proofs.Ytonolmddjifgjaa.PEnt
open Go.RowKit Go.Proofs.YtonolmddjifgjaaBridge Go.Proofs.YtonolmddjifgjaaMem Go.Proofs.YtonolmddjifgjaaW.PrintWords Go.Proofs.YtonolmddjifgjaaW.PrintLast Go.Proofs.YtonolmddjifgjaaW.PrintMore
attribute [local go_sem] max2_int min2_int max_two min_two max_three min_three max_four min_four   -- for this text's walks alone
set_option linter.unusedVariables false
set_option linter.unusedSimpArgs false

-- OVER none
set_option maxHeartbeats 2000000 in
set_option maxRecDepth 100000 in
theorem kept_Doc (A0 : Option Addr) (c0 : Nat) (l : List S45) (A1 : Option Addr) (c1 : Nat) (w : World) (hr0 : Kd.C kE w A0 (l.length + 1) (spared l ++ [(markE, false)])) (hc0 : l.length + 1 ≤ c0) (hr1 : Kd.C k45 w A1 l.length l) (hc1 : l.length ≤ c1) (hl : l.length < 2513169434916) (hin : ∀ e ∈ l, e.f2.length < 17592186044415) :
    Calls Try.prog 12 #[.agg #[.slice A0 l.length c0], .agg #[.slice A1 l.length c1]] w fun e w' => e = .returned (.bool true) ∧ Below w.heap.size w w' := by
  obtain ⟨w2, e2⟩ : ∃ w2, w2 = (w.alloc (.cells #[.slice A0 l.length c0] 27)).alloc (.cells #[.slice A1 l.length c1] 27) := ⟨_, rfl⟩
  have hB : Below w.heap.size w w2 := by
    rw [e2]; exact (((Below.refl _ w).alloc (Nat.le_refl _) _).alloc (by simp) _)
  have hcall := fun n => kept_Entries A0 c0 l A1 c1 (w2.drewN n) (Kd.C_drewN (Kd.C_below hr0 hB) n) hc0 (Kd.C_drewN (Kd.C_below hr1 hB) n) hc1 hl hin
  have HC := Aside0.mk hcall
  have HB := Aside0.mk hB
  have E2 := Aside0.mk e2
  clear hcall hB e2 hr0 hr1 hin
  go_enter Try.func12, Try.ntmps12
  go_wp2_with (go_at_call 29; rw [← E2.out]; refine (HC.out 0).mono ?_; rintro e w3 ⟨rfl, hb⟩; have HB3 := Aside0.mk hb; clear hb)
  trace_state
  go_ret
  exact ⟨by rfl, HB.out.trans (HB3.out.mono HB.out.size)⟩

end Go.Proofs.Ytonolmddjifgjaa.PEnt
