/- Printed by tools/more.py (a program of this session's own, over the print.py of the kit) out of the translation. -/
import Derived.Test.YtonolmddjifgjaaEnt0
import Derived.Test.YtonolmddjifgjaaEnt1
import Derived.Test.YtonolmddjifgjaaEnt10
import Derived.Test.YtonolmddjifgjaaEnt11
import Derived.Test.YtonolmddjifgjaaEnt12
import Derived.Test.YtonolmddjifgjaaEnt17
import Derived.Test.YtonolmddjifgjaaEnt18
namespace Go.Proofs.Ytonolmddjifgjaa.PEnt
open Go.RowKit Go.Proofs.YtonolmddjifgjaaBridge Go.Proofs.YtonolmddjifgjaaMem Go.Proofs.YtonolmddjifgjaaW.PrintWords Go.Proofs.YtonolmddjifgjaaW.PrintLast Go.Proofs.YtonolmddjifgjaaW.PrintMore
attribute [local go_sem] max2_int min2_int max_two min_two max_three min_three max_four min_four   -- for this text's walks alone
set_option linter.unusedVariables false
set_option linter.unusedSimpArgs false

-- OVER none
theorem kE_get {w : World} {A : Option Addr} {l : List S45} (h : Kd.C kE w A (l.length + 1) (spared l ++ [(markE, false)])) : ∃ ad, A = some ad ∧ ∀ i x, l[i]? = some x → ∃ A2 c2, (∀ j u, ([.string x.f0, .string x.f1, .slice A2 x.f2.length c2] : List Value)[j]? = some u → w.cell? (ad.add (i * 3 + j)) = some u) ∧ x.f2.length + 1 ≤ c2 ∧ (Kd.int .i64).C w A2 (x.f2.length + 1) (x.f2 ++ [-7171]) := by
  obtain ⟨ad, e, hc⟩ := h.2.2 (Nat.succ_pos _)
  refine ⟨ad, e, fun i x hx => ?_⟩
  have hi : i < l.length := (List.getElem?_eq_some_iff.1 hx).1
  obtain ⟨cs, _, hK, hcell⟩ := hc i (x, true) (by rw [List.getElem?_append_left (by rw [spared_len]; exact hi)]; unfold spared; rw [List.getElem?_map, hx]; rfl)
  obtain ⟨A2, c2, rfl, h1, h2⟩ := kE_open hK
  exact ⟨A2, c2, hcell, h1, h2⟩
theorem kE_mark {w : World} {ad : Addr} {l : List S45} (h : Kd.C kE w (some ad) (l.length + 1) (spared l ++ [(markE, false)])) : w.cell? (ad.add (l.length * 3)) = some (.string ⟨#[109, 97, 114, 107]⟩) := by
  obtain ⟨ad2, e, hc⟩ := h.2.2 (Nat.succ_pos _)
  cases e
  obtain ⟨cs, _, hK, hcell⟩ := hc l.length (markE, false) (by rw [List.getElem?_append_right (by rw [spared_len]; exact Nat.le_refl _), spared_len, Nat.sub_self]; rfl)
  obtain ⟨c0, c1, rfl, h0, _⟩ := hK
  have := hcell 0 (.string ⟨#[109, 97, 114, 107]⟩) (by rw [show c0 = [.string ⟨#[109, 97, 114, 107]⟩] from h0]; rfl)
  exact this
theorem kE_plain {w : World} {A : Option Addr} {l : List S45} (h : Kd.C kE w A (l.length + 1) (spared l ++ [(markE, false)])) : Kd.C k45 w A l.length l := by
  obtain ⟨ad, e, hg⟩ := kE_get h
  have := h.2.1
  refine ⟨rfl, by omega, fun _ => ⟨ad, e, fun i x hx => ?_⟩⟩
  obtain ⟨A2, c2, hc, h1, h2⟩ := hg i x hx
  exact ⟨_, rfl, k45_mk w x (by omega) (C_init h2), hc⟩
theorem entries_loop (l : List S45) (m : Nat) (hm : ∀ e ∈ l, e.f2.length < m) (hm2 : m < 9223372036854775807) (hl : l.length < 9223372036854775807) (d : Nat) : ∀ (k i : Nat), i + d = l.length → d + m < k → lecternkit_Entries.l0 k l l (i : Int) = some true := by
  induction d with
  | zero =>
    intro k i h1 h2
    obtain ⟨k, rfl⟩ : ∃ m, k = m + 1 := ⟨k - 1, by omega⟩
    simp only [lecternkit_Entries.l0]
    rw [if_neg (by omega)]
  | succ d ih =>
    intro k i h1 h2
    obtain ⟨k, rfl⟩ : ∃ m, k = m + 1 := ⟨k - 1, by omega⟩
    have hi : i < l.length := by omega
    have hmem : (rd_T45 l (i : Int)) ∈ l := by
      unfold rd_T45
      rw [Int.toNat_natCast, List.getD_eq_getElem?_getD, List.getElem?_eq_getElem hi]
      exact List.getElem_mem hi
    have h3 := hm _ hmem
    simp only [lecternkit_Entries.l0]
    rw [if_pos (by omega), if_pos (by omega), if_pos (by omega), if_pos trivial, if_pos trivial, int64s_self k _ (by omega) (by omega)]
    rw [Option.bind_some, if_pos rfl, show wrap64 ((i : Int) + 1) = ((i + 1 : Nat) : Int) from by unfold wrap64; omega]
    exact ih k (i + 1) (by omega) (by omega)
theorem entries_self (l : List S45) (m : Nat) (hm : ∀ e ∈ l, e.f2.length < m) (hm2 : m < 9223372036854775807) (hl : l.length < 9223372036854775807) : lecternkit_Entries.f (l.length + m + 1) l l = some true := by
  unfold lecternkit_Entries.f
  rw [if_pos rfl]
  exact entries_loop l m hm hm2 hl l.length _ 0 (by omega) (by omega)
set_option maxHeartbeats 4000000 in
set_option maxRecDepth 100000 in
theorem kept_Entries (A0 : Option Addr) (c0 : Nat) (l : List S45) (A1 : Option Addr) (c1 : Nat) (w : World) (hr0 : Kd.C kE w A0 (l.length + 1) (spared l ++ [(markE, false)])) (hc0 : l.length + 1 ≤ c0) (hr1 : Kd.C k45 w A1 l.length l) (hc1 : l.length ≤ c1) (hl : l.length < 2513169434916) (hin : ∀ e ∈ l, e.f2.length < 17592186044415) :
    Calls Try.prog 29 #[.slice A0 l.length c0, .slice A1 l.length c1] w fun e w' => e = .returned (.bool true) ∧ Below w.heap.size w w' := by
  have hcall := lecternkit_Entries.calls _ A0 c0 l A1 c1 l true w (kE_plain hr0) (by omega) hr1 hc1 (entries_self l 17592186044415 hin (by omega) (by omega))
  obtain ⟨ad, rfl, hget⟩ := kE_get hr0
  have hmark := kE_mark hr0
  obtain ⟨es, em, eok, elie⟩ := ents_of hr1
  have elen : l.length = es.length := by rw [← em, List.length_map]
  have hcut : ∀ W : World, (Instr.slice 25 (.slice (some ad) l.length c0) none (some (.int .i64 ((l.length + 1 : Nat) : Int))) none).run Try.prog W = .ok (.slice (some ad) (l.length + 1) c0) W := by
    obtain ⟨i0, hi0, _, _, _⟩ := info_parts info45
    exact cut_over (P := Try.prog) 25 45 .i64 Try.underlying25 hi0 (some ad) l.length c0 (l.length + 1) hc0
  rw [Int.natCast_add, show ((1 : Nat) : Int) = 1 from rfl] at hcut
  rw [elen] at hcut hl hmark hcall hc0 hc1
  have HC := Aside0.mk hcall
  have HG := Aside0.mk hget
  have HM := Aside0.mk hmark
  have HIN := Aside0.mk hin
  have EM := Aside0.mk em
  have EOK := Aside0.mk eok
  have ELIE := Aside0.mk elie
  clear hcall hr0 hr1 hget hmark hin em eok elie
  rw [elen]
  clear elen
  go_enter Try.func29, Try.ntmps29
  go_wp2_with (go_at_call 10; refine HC.out.mono ?_; rintro e w5 ⟨rfl, hb⟩; have HB5 := Aside0.mk hb; clear hb)
  go_loopg [5] es.length (fun gg v5 wr => ∃ i : Nat, v5 = .int .i64 i ∧ i ≤ es.length ∧ es.length - i ≤ gg ∧ Aside0 (Below w.heap.size w wr))
  case atStart => exact ⟨0, rfl, Nat.zero_le _, by omega, HB5⟩
  case round =>
    obtain ⟨i, rfl, hi, hgg, HB⟩ := hrel
    by_cases hlt : i < es.length
    · have hltz : (i : Int) < (es.length : Int) := by omega
      obtain ⟨ad1, rfl, hcl⟩ := ELIE.out (by omega)
      obtain ⟨x, hxk⟩ : ∃ x, es[i]? = some x := ⟨es[i], List.getElem?_eq_getElem hlt⟩
      obtain ⟨_, _, hx2⟩ := at_ent hcl i x hxk
      obtain ⟨hxl, hxc⟩ := EOK.out x (List.mem_of_getElem? hxk)
      have hlx : l[i]? = some x.x := by rw [← EM.out, List.getElem?_map, hxk]; rfl
      obtain ⟨A2, c2, hcs, hl2, hr2⟩ := HG.out i x.x hlx
      have hy2 := hcs 2 _ rfl
      rw [add_field _ _ 2 (by omega)] at hy2
      replace hx2 := (HB.out.cell (World.block_lt_of_cell? w _ hx2)).trans hx2
      replace hy2 := (HB.out.cell (World.block_lt_of_cell? w _ hy2)).trans hy2
      have hk := fun n => kept_Int64s A2 c2 x.x.f2 x.A x.c (wr.drewN n) (Kd.C_drewN (Kd.C_below hr2 HB.out) n) hl2 (Kd.C_drewN (Kd.C_below hxc HB.out) n) hxl (HIN.out _ (List.mem_of_getElem? hlx))
      have HK := Aside0.mk hk
      clear hk hcs hcl hxk hxl hxc hlx hl2 hr2
      go_wp2_with (go_at_call 41; refine (HK.out _).mono ?_; rintro e w' ⟨rfl, ⟨nd, rfl⟩⟩; (try first | exact ⟨rfl, _, World.drewN_drewN _ _ _⟩ | exact ⟨rfl, _, Eq.trans (World.drewN_drewN _ _ _) (congrArg (World.drewN _) (Nat.add_assoc _ _ _))⟩))
      repeat (go_quiet (first | (go_at_call 41; refine (HK.out _).mono ?_; rintro e w' ⟨rfl, ⟨nd, rfl⟩⟩; (try first | exact ⟨rfl, _, World.drewN_drewN _ _ _⟩ | exact ⟨rfl, _, Eq.trans (World.drewN_drewN _ _ _) (congrArg (World.drewN _) (Nat.add_assoc _ _ _))⟩))); try go_wp2_with (first | (go_at_call 41; refine (HK.out _).mono ?_; rintro e w' ⟨rfl, ⟨nd, rfl⟩⟩; (try first | exact ⟨rfl, _, World.drewN_drewN _ _ _⟩ | exact ⟨rfl, _, Eq.trans (World.drewN_drewN _ _ _) (congrArg (World.drewN _) (Nat.add_assoc _ _ _))⟩))))
      go_roundg (es.length - (i + 1))
      case measure => omega
      case rel => exact ⟨i + 1, by go_num, by omega, by omega, ⟨by repeat (first | (with_reducible first | exact HB.out | apply below_alloc | apply pw_below_drewN | apply below_drew1) | exact HB.out)⟩⟩
    · have hltz : ¬ (i : Int) < (es.length : Int) := by omega
      have ei : i = es.length := by omega
      subst ei
      have hm0 := (HB.out.cell (World.block_lt_of_cell? w _ HM.out)).trans HM.out
      go_wp2
      go_ret
      exact ⟨by rfl, HB.out⟩

end Go.Proofs.Ytonolmddjifgjaa.PEnt
