/- Printed by tools/more.py (a program of this session's own, over the print.py of the kit) out of the translation. -/
import Derived.Test.YtonolmddjifgjaaEnt0
import Derived.Test.YtonolmddjifgjaaEnt11
import Derived.Test.YtonolmddjifgjaaEnt14
import Derived.Test.YtonolmddjifgjaaEnt16
import Derived.Test.YtonolmddjifgjaaEnt18
namespace Go.Proofs.Ytonolmddjifgjaa.PEnt
open Go.RowKit Go.Proofs.YtonolmddjifgjaaBridge Go.Proofs.YtonolmddjifgjaaMem Go.Proofs.YtonolmddjifgjaaW.PrintWords Go.Proofs.YtonolmddjifgjaaW.PrintLast Go.Proofs.YtonolmddjifgjaaW.PrintMore
attribute [local go_sem] max2_int min2_int max_two min_two max_three min_three max_four min_four   -- for this text's walks alone
set_option linter.unusedVariables false
set_option linter.unusedSimpArgs false

-- OVER none
theorem strings_loop (l : List ByteArray) (hl : l.length < 9223372036854775807) (d : Nat) : ∀ (k i : Nat), i + d = l.length → d < k → lecternkit_Strings.l0 k l l (i : Int) = some true := by
  induction d with
  | zero =>
    intro k i h1 h2
    obtain ⟨k, rfl⟩ : ∃ m, k = m + 1 := ⟨k - 1, by omega⟩
    simp only [lecternkit_Strings.l0]
    rw [if_neg (by omega)]
  | succ d ih =>
    intro k i h1 h2
    obtain ⟨k, rfl⟩ : ∃ m, k = m + 1 := ⟨k - 1, by omega⟩
    simp only [lecternkit_Strings.l0]
    rw [if_pos (by omega), if_pos (by omega), if_pos (by omega), if_pos trivial, show wrap64 ((i : Int) + 1) = ((i + 1 : Nat) : Int) from by unfold wrap64; omega]
    exact ih k (i + 1) (by omega) (by omega)
theorem strings_self (k : Nat) (l : List ByteArray) (hl : l.length < 9223372036854775807) (hk : l.length < k) : lecternkit_Strings.f k l l = some true := by
  unfold lecternkit_Strings.f
  rw [if_pos rfl]
  exact strings_loop l hl l.length k 0 (by omega) (by omega)
set_option maxHeartbeats 2000000 in
set_option maxRecDepth 100000 in
theorem kept_Strings (A0 : Option Addr) (c0 : Nat) (l : List ByteArray) (A1 : Option Addr) (c1 : Nat) (w : World) (hr0 : Kd.C (Kd.string) w A0 (l.length + 1) (l ++ [mark4])) (hc0 : l.length + 1 ≤ c0) (hr1 : Kd.C (Kd.string) w A1 l.length l) (hc1 : l.length ≤ c1) (hl : l.length < 17592186044415) :
    Calls Try.prog 13 #[.slice A0 l.length c0, .slice A1 l.length c1] w fun e w' => e = .returned (.bool true) ∧ Drawn0 w w' := by
  have hcall := lecternkit_Strings.calls (l.length + 1) A0 c0 l A1 c1 l true w (C_init hr0) (by omega) hr1 hc1 (strings_self _ l (by omega) (by omega))
  obtain ⟨ad, rfl, hx⟩ := C_last (enc := Value.string) (h1 := fun _ => rfl) hr0
  obtain ⟨i0, hi0, _, _, _⟩ := info_parts info9
  have hcut := cut_over (P := Try.prog) 28 9 .i64 Try.underlying28 hi0 (some ad) l.length c0 (l.length + 1) hc0
  rw [Int.natCast_add] at hcut
  have HC := Aside0.mk hcall
  clear hcall hr0 hr1
  go_enter Try.func13, Try.ntmps13
  go_wp2_with (go_at_call 30; refine HC.out.mono ?_; rintro e w' ⟨rfl, ⟨nd, rfl⟩⟩)
  go_ret
  exact ⟨by rfl, by repeat (first | exact Drawn0.refl _ | apply Drawn0.step)⟩

end Go.Proofs.Ytonolmddjifgjaa.PEnt
