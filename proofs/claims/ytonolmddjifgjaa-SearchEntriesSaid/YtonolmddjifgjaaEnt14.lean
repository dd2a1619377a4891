/- Printed by tools/more.py (a program of this session's own, over the print.py of the kit) out of the translation. -/
import Derived.Test.YtonolmddjifgjaaEnt0
namespace Go.Proofs.Ytonolmddjifgjaa.PEnt
open Go.RowKit Go.Proofs.YtonolmddjifgjaaBridge Go.Proofs.YtonolmddjifgjaaMem Go.Proofs.YtonolmddjifgjaaW.PrintWords Go.Proofs.YtonolmddjifgjaaW.PrintLast Go.Proofs.YtonolmddjifgjaaW.PrintMore
attribute [local go_sem] max2_int min2_int max_two min_two max_three min_three max_four min_four   -- for this text's walks alone
set_option linter.unusedVariables false
set_option linter.unusedSimpArgs false

-- OVER none
/-- The mark of the kit. -/
abbrev mark4 : ByteArray := ⟨#[109, 97, 114, 107]⟩
set_option maxHeartbeats 2000000 in
set_option maxRecDepth 100000 in
theorem lent_Strings (A0 : Option Addr) (c0 : Nat) (l0 : List ByteArray) (w : World) (hr0 : Kd.C (Kd.string) w A0 l0.length l0) (hc0 : l0.length ≤ c0) (hl : l0.length < 8796093022207) :
    Calls Try.prog 6 #[.slice A0 l0.length c0] w fun e w' => ∃ A c, e = .returned (.slice A l0.length c) ∧ l0.length + 1 ≤ c ∧ Kd.R (Kd.string) 9 w' w.heap.size (fun _ => True) (.slice A (l0.length + 1) c) (l0 ++ [mark4]) ∧ Below w.heap.size w w' := by
  have HR0 := Aside0.mk hr0
  clear hr0 hc0
  have HB := Aside0.mk (Below.refl w.heap.size w)
  have HL := Aside0.mk hl
  clear hl
  go_enter Try.func6, Try.ntmps6
  go_wp2_with (first | ((with_reducible refine gate_builtin (b := .append) (xs := #[.tmp 4, .tmp 5]) rfl ?_); at_builtin; refine Kd.R_append_rows (Kd.string) (w0 := w) w.heap.size rfl (.tmp 4) (.tmp 5) 28 9 (.string ⟨#[]⟩) 16 rfl Try.underlying28 info9 rfl (by decide) (by omega) (.slice none 0 0) ([] : List ByteArray) l0 _ _ _ (fun _ => True) (fun _ => False) rfl rfl (Kd.R_nil _ _ _ _ (fun _ => True)) HR0.out (fun _ _ h => h) (fun _ h => h.elim) (fun _ _ => trivial) HB.out (Nat.le_refl _) (by have := HL.out; simp only [List.length_nil]; omega) ?_; intro v102 w6 ho hb hg hat; rw [List.nil_append] at ho; have HO103 := Aside0.mk ho; have HB1 := Aside0.mk hb; clear ho hb hg hat) | ((with_reducible refine gate_builtin (b := .append) (xs := #[.tmp 7, .tmp 8]) rfl ?_); at_builtin; refine Kd.R_append (Kd.string) (w0 := w) w.heap.size rfl (.tmp 7) (.tmp 8) 28 9 (.string ⟨#[]⟩) 16 rfl Try.underlying28 info9 rfl (by decide) (by omega) v102 l0 (mark4) [.string mark4] (fun _ => True) (fun _ => False) rfl rfl rfl (fun _ hk => hk.elim) (fun _ _ => trivial) HO103.out HB1.out HB1.out.size (by have := HL.out; omega) ?_; intro v105 w7 ho hb hg hat; have HB2 := Aside0.mk hb; obtain ⟨A, c, eo⟩ := Kd.R_slice ho; rw [List.length_append, List.length_singleton] at eo; subst eo; have hle := (Kd.R_reads' ho).2.1; have HO := Aside0.mk ho; obtain ⟨i0, hi0, _, _, _⟩ := info_parts info9; have hcut := cut_to (P := Try.prog) 28 9 .i64 Try.underlying28 hi0 A (l0.length + 1) c (l0.length : Int) (by omega) (by omega) hle; rw [Int.toNat_natCast] at hcut; clear ho hb hg hat))
  go_ret
  exact ⟨A, c, by rfl, hle, HO.out, HB2.out⟩

end Go.Proofs.Ytonolmddjifgjaa.PEnt
