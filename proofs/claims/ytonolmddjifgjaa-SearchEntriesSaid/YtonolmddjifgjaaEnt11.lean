/- Printed by tools/more.py (a program of this session's own, over the print.py of the kit) out of the translation. -/
import Derived.Test.YtonolmddjifgjaaEnt0
namespace Go.Proofs.Ytonolmddjifgjaa.PEnt
open Go.RowKit Go.Proofs.YtonolmddjifgjaaBridge Go.Proofs.YtonolmddjifgjaaMem Go.Proofs.YtonolmddjifgjaaW.PrintWords Go.Proofs.YtonolmddjifgjaaW.PrintLast Go.Proofs.YtonolmddjifgjaaW.PrintMore
attribute [local go_sem] max2_int min2_int max_two min_two max_three min_three max_four min_four   -- for this text's walks alone
set_option linter.unusedVariables false
set_option linter.unusedSimpArgs false

-- OVER none
/-- The first of a row. -/
theorem C_first {α : Type} {d : Kd α} {w : World} {A : Option Addr} {n m : Nat} {xs : List α} (h : Kd.C d w A n xs) (hm : m ≤ n) : Kd.C d w A m (xs.take m) := by
  obtain ⟨h1, h2, h3⟩ := h
  refine ⟨by rw [List.length_take]; omega, by omega, fun hp => ?_⟩
  obtain ⟨ad, e, hc⟩ := h3 (by omega)
  refine ⟨ad, e, fun j p hj => hc j p ?_⟩
  rw [List.getElem?_take] at hj
  by_cases c : j < m
  · rwa [if_pos c] at hj
  · rw [if_neg c] at hj; cases hj
theorem C_init {α : Type} {d : Kd α} {w : World} {A : Option Addr} {xs : List α} {m : α} (h : Kd.C d w A (xs.length + 1) (xs ++ [m])) : Kd.C d w A xs.length xs := by
  have := C_first h (Nat.le_succ xs.length)
  rwa [List.take_left'  rfl] at this
theorem C_last {α : Type} {enc : α → Value} {h1 : ∀ x, (enc x).oneCell' = true} {w : World} {A : Option Addr} {xs : List α} {m : α} (h : Kd.C (Kd.scalar enc h1) w A (xs.length + 1) (xs ++ [m])) : ∃ ad, A = some ad ∧ w.cell? (ad.add xs.length) = some (enc m) := by
  obtain ⟨_, _, h3⟩ := h
  obtain ⟨ad, e, hc⟩ := h3 (Nat.succ_pos _)
  obtain ⟨cs, hl, hK, hcell⟩ := hc xs.length m (by rw [List.getElem?_append_right (Nat.le_refl _), Nat.sub_self]; rfl)
  refine ⟨ad, e, ?_⟩
  have e1 : cs = [enc m] := hK
  have := hcell 0 (enc m) (by rw [e1]; rfl)
  simpa [Kd.scalar] using this
/-- A row of numbers behind which the mark lies (true), or none (false). -/
def spare : Kd (List Int × Bool) where
  sz := 1
  E := [2]
  K := fun w x cs => (x.2 = true ∧ ∃ A c, cs = [.slice A x.1.length c] ∧ x.1.length + 1 ≤ c ∧ (Kd.int .i64).C w A (x.1.length + 1) (x.1 ++ [-7171])) ∨ (x.2 = false ∧ x.1 = [] ∧ cs = [.slice none 0 0])
  M := fun w base ok x cs => (x.2 = true ∧ ∃ A c, cs = [.slice A x.1.length c] ∧ x.1.length + 1 ≤ c ∧ (Kd.int .i64).R 2 w base ok (.slice A (x.1.length + 1) c) (x.1 ++ [-7171])) ∨ (x.2 = false ∧ x.1 = [] ∧ cs = [.slice none 0 0])
  K_len := by rintro w x cs (⟨_, A, c, rfl, _⟩ | ⟨_, _, rfl⟩) <;> rfl
  K_one := by
    rintro w x cs (⟨_, A, c, rfl, _⟩ | ⟨_, _, rfl⟩) u hu <;> (rw [List.mem_singleton.1 hu]; rfl)
  K_below := by
    rintro w w1 x cs hb (⟨h0, A, c, rfl, hl, hr⟩ | h)
    · exact .inl ⟨h0, A, c, rfl, hl, Kd.C_below hr hb⟩
    · exact .inr h
  K_of_M := by
    rintro w base ok x cs (⟨h0, A, c, rfl, hl, hr⟩ | h)
    · have := (Kd.R_reads' hr).2.2
      rw [List.length_append] at this
      exact .inl ⟨h0, A, c, rfl, hl, this⟩
    · exact .inr h
  M_mono := by
    rintro w base ok ok' x cs hok (⟨h0, A, c, rfl, hl, hr⟩ | h)
    · exact .inl ⟨h0, A, c, rfl, hl, Kd.R_mono hr hok⟩
    · exact .inr h
  M_bound := by
    rintro w base ok x cs (⟨h0, A, c, rfl, hl, hr⟩ | h)
    · exact .inl ⟨h0, A, c, rfl, hl, Kd.R_bound hr⟩
    · exact .inr h
  M_move := by
    rintro w w1 base ok x cs hm (⟨h0, A, c, rfl, hl, hr⟩ | h)
    · exact .inl ⟨h0, A, c, rfl, hl, Kd.R_move hr hm⟩
    · exact .inr h
  M_lower := by
    rintro w base base' ok x cs hb (⟨h0, A, c, rfl, hl, hr⟩ | h)
    · exact .inl ⟨h0, A, c, rfl, hl, Kd.R_lower hr hb⟩
    · exact .inr h
set_option maxHeartbeats 2000000 in
set_option maxRecDepth 100000 in
theorem lent_Int64s (A0 : Option Addr) (c0 : Nat) (l0 : List Int) (w : World) (hr0 : Kd.C (Kd.int .i64) w A0 l0.length l0) (hc0 : l0.length ≤ c0) (hl : l0.length < 17592186044415) :
    Calls Try.prog 35 #[.slice A0 l0.length c0] w fun e w' => ∃ A c, e = .returned (.slice A l0.length c) ∧ l0.length + 1 ≤ c ∧ Kd.R (Kd.int .i64) 2 w' w.heap.size (fun _ => True) (.slice A (l0.length + 1) c) (l0 ++ [-7171]) ∧ Below w.heap.size w w' := by
  have HR0 := Aside0.mk hr0
  clear hr0 hc0
  have HB := Aside0.mk (Below.refl w.heap.size w)
  have HL := Aside0.mk hl
  clear hl
  go_enter Try.func35, Try.ntmps35
  go_wp2_with (first | ((with_reducible refine gate_builtin (b := .append) (xs := #[.tmp 4, .tmp 5]) rfl ?_); at_builtin; refine Kd.R_append_rows (Kd.int .i64) (w0 := w) w.heap.size rfl (.tmp 4) (.tmp 5) 43 2 (.int .i64 0) 8 rfl Try.underlying43 info2 rfl (by decide) (by omega) (.slice none 0 0) ([] : List Int) l0 _ _ _ (fun _ => True) (fun _ => False) rfl rfl (Kd.R_nil _ _ _ _ (fun _ => True)) HR0.out (fun _ _ h => h) (fun _ h => h.elim) (fun _ _ => trivial) HB.out (Nat.le_refl _) (by have := HL.out; simp only [List.length_nil]; omega) ?_; intro v102 w6 ho hb hg hat; rw [List.nil_append] at ho; have HO103 := Aside0.mk ho; have HB1 := Aside0.mk hb; clear ho hb hg hat) | ((with_reducible refine gate_builtin (b := .append) (xs := #[.tmp 7, .tmp 8]) rfl ?_); at_builtin; refine Kd.R_append (Kd.int .i64) (w0 := w) w.heap.size rfl (.tmp 7) (.tmp 8) 43 2 (.int .i64 0) 8 rfl Try.underlying43 info2 rfl (by decide) (by omega) v102 l0 (-7171) [.int .i64 (-7171)] (fun _ => True) (fun _ => False) rfl rfl rfl (fun _ hk => hk.elim) (fun _ _ => trivial) HO103.out HB1.out HB1.out.size (by have := HL.out; omega) ?_; intro v105 w7 ho hb hg hat; have HB2 := Aside0.mk hb; obtain ⟨A, c, eo⟩ := Kd.R_slice ho; rw [List.length_append, List.length_singleton] at eo; subst eo; have hle := (Kd.R_reads' ho).2.1; have HO := Aside0.mk ho; obtain ⟨i0, hi0, _, _, _⟩ := info_parts info2; have hcut := cut_to (P := Try.prog) 43 2 .i64 Try.underlying43 hi0 A (l0.length + 1) c (l0.length : Int) (by omega) (by omega) hle; rw [Int.toNat_natCast] at hcut; clear ho hb hg hat))
  go_ret
  exact ⟨A, c, by rfl, hle, HO.out, HB2.out⟩

end Go.Proofs.Ytonolmddjifgjaa.PEnt
