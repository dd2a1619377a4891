/- Printed by tools/more.py (a program of this session's own, over the print.py of the kit) out of the translation. -/
import Derived.Test.YtonolmddjifgjaaEnt0
import Derived.Test.YtonolmddjifgjaaEnt12
namespace Go.Proofs.Ytonolmddjifgjaa.PEnt
open Go.RowKit Go.Proofs.YtonolmddjifgjaaBridge Go.Proofs.YtonolmddjifgjaaMem Go.Proofs.YtonolmddjifgjaaW.PrintWords Go.Proofs.YtonolmddjifgjaaW.PrintLast Go.Proofs.YtonolmddjifgjaaW.PrintMore
attribute [local go_sem] max2_int min2_int max_two min_two max_three min_three max_four min_four   -- for this text's walks alone
set_option linter.unusedVariables false
set_option linter.unusedSimpArgs false

-- OVER none
set_option maxHeartbeats 2000000 in
set_option maxRecDepth 100000 in
theorem lent_Doc (A0 : Option Addr) (c0 : Nat) (l0 : List S45) (w : World) (hr0 : Kd.C k45 w A0 l0.length l0) (hc0 : l0.length ≤ c0) (hl : l0.length < 2513169434916) (hin : ∀ e ∈ l0, e.f2.length < 17592186044415) :
    Calls Try.prog 5 #[.agg #[.slice A0 l0.length c0]] w fun e w' => ∃ A c, e = .returned (.agg #[.slice A l0.length c]) ∧ l0.length + 1 ≤ c ∧ Kd.C kE w' A (l0.length + 1) (spared l0 ++ [(markE, false)]) ∧ Below w.heap.size w w' := by
  obtain ⟨w2, e2⟩ : ∃ w2, w2 = (w.alloc (.cells #[.slice A0 l0.length c0] 27)).alloc (.cells #[.slice none 0 0] 27) := ⟨_, rfl⟩
  have hB : Below w.heap.size w w2 := by
    rw [e2]; exact (((Below.refl _ w).alloc (Nat.le_refl _) _).alloc (by simp) _)
  have hblk : w2.heap[w.heap.size + 1]? = some (.cells #[.slice none 0 0] 27 (0, 0)) := by
    have := blk_new (w.alloc (.cells #[.slice A0 l0.length c0] 27)) (.cells #[.slice none 0 0] 27)
    rw [World.size_alloc] at this
    rw [e2]; exact this
  have hcall := lent_Entries A0 c0 l0 w2 (Kd.C_below hr0 hB) hc0 hl hin
  have HC := Aside0.mk hcall
  have HB := Aside0.mk hB
  have HK := Aside0.mk hblk
  have E2 := Aside0.mk e2
  clear hcall hB hblk e2 hr0 hin
  go_enter Try.func5, Try.ntmps5
  go_wp2_with (go_at_call 22; rw [← E2.out]; refine HC.out.mono ?_; rintro e w3 ⟨A, c, rfl, hcc, hC, hb⟩; have hk3 := (hb.block _ (blk_lt HK.out)).trans HK.out; have hy := (blk_cell hk3 0).trans rfl; have hyf := blk_frozen hk3 0; have HK3 := Aside0.mk hk3; have HC3 := Aside0.mk hC; have HB3 := Aside0.mk hb; clear hk3 hC hb)
  refine bodyPost_ret (results_cell_row rfl _ _ (w.heap.size + 1) 27 #[.slice A l0.length c] (0, 0) _ rfl (blk_put (cs := #[.slice none 0 0]) HK3.out 0 _ rfl) Try.underlying27 rfl (by kernel_rfl)) rfl ?_
  have hs2 : w.heap.size + 1 < w2.heap.size := blk_lt HK.out
  have hS := Kd.S_far (p := ⟨w.heap.size + 1, 0, none⟩) (Kd.S_bound HC3.out) (fun k hk e => by have h1 := hk.2.1; have h2 : k = w.heap.size + 1 := e; omega) (.slice A l0.length c)
  have hC := (Kd.S_reads' hS).2.2
  rw [List.length_append, List.length_singleton, spared_len] at hC
  exact ⟨A, c, by rfl, hcc, hC, (HB.out.trans (HB3.out.mono HB.out.size)).setCell (p := ⟨w.heap.size + 1, 0, none⟩) (Nat.le_succ _) _⟩

end Go.Proofs.Ytonolmddjifgjaa.PEnt
