/- Printed by tools/more.py (a program of this session's own, over the print.py of the kit) out of the translation. -/
import Derived.Test.YtonolmddjifgjaaEnt0
namespace Go.Proofs.Ytonolmddjifgjaa.PEnt
open Go.RowKit Go.Proofs.YtonolmddjifgjaaBridge Go.Proofs.YtonolmddjifgjaaMem Go.Proofs.YtonolmddjifgjaaW.PrintWords Go.Proofs.YtonolmddjifgjaaW.PrintLast Go.Proofs.YtonolmddjifgjaaW.PrintMore
attribute [local go_sem] max2_int min2_int max_two min_two max_three min_three max_four min_four   -- for this text's walks alone
set_option linter.unusedVariables false
set_option linter.unusedSimpArgs false


/-! ### schema_Find: function 44 -/
-- OVER rounds=0 making=1
/-! ### schema_Find: function 44: by hand: its callee is the library's IndexFunc, at its own closure -/
/-- The place of the first that passes, or -1. -/
def firstAt {α : Type} (p : α → Bool) (xs : List α) : Int := if xs.findIdx p < xs.length then (xs.findIdx p : Int) else -1
theorem firstAt_hit {α : Type} {p : α → Bool} {xs : List α} (z : α) (k : Nat) (hk : k < xs.length) (hy : p (xs.getD k z) = true) (hn : ∀ j, j < k → p (xs.getD j z) = false) : firstAt p xs = (k : Int) := by
  have e : xs.findIdx p = k := by
    rw [List.findIdx_eq hk]
    refine ⟨by rw [List.getD_eq_getElem?_getD, List.getElem?_eq_getElem hk] at hy; exact hy, fun j hj => ?_⟩
    have := hn j hj
    rw [List.getD_eq_getElem?_getD, List.getElem?_eq_getElem (by omega)] at this
    exact this
  unfold firstAt
  rw [e, if_pos hk]
theorem firstAt_miss {α : Type} {p : α → Bool} {xs : List α} (z : α) (hn : ∀ j, j < xs.length → p (xs.getD j z) = false) : firstAt p xs = -1 := by
  unfold firstAt
  rw [if_neg]
  intro h
  have := hn _ h
  rw [List.getD_eq_getElem?_getD, List.getElem?_eq_getElem h] at this
  have h2 := List.findIdx_getElem (w := h)
  simp only [Option.getD_some] at this
  rw [h2] at this
  cases this
def named51 (name : ByteArray) (f : S51) : Bool := f.f0.toList == name.toList
set_option maxHeartbeats 1000000 in
theorem schema_Find.test (W : World) (x : S51) (A2 : Option Addr) (c2 : Nat) (p : Addr) (name : ByteArray) (hp : W.cell? p = some (.string name)) :
    Calls Try.prog 47 #[.agg #[.string x.f0, .int .i64 x.f1, .slice A2 x.f2.length c2, .int .i64 x.f3, .int .i64 x.f4, .bool x.f5, .bool x.f6], .pointer (some p)] W fun e w' => e = .returned (.bool (named51 name x)) ∧ Below W.heap.size W w' := by
  have hp2 := (World.cell?_alloc_lt W (.cells #[.string x.f0, .int .i64 x.f1, .slice A2 x.f2.length c2, .int .i64 x.f3, .int .i64 x.f4, .bool x.f5, .bool x.f6] 51) p (World.block_lt_of_cell? W p hp)).trans hp
  clear hp
  go_enter Try.func47, Try.ntmps47
  go_wp2
  go_ret
  exact ⟨rfl, (Below.refl _ _).alloc (Nat.le_refl _) _⟩
set_option maxHeartbeats 2000000 in
set_option maxRecDepth 100000 in
theorem schema_Find.index (A : Option Addr) (c : Nat) (l : List S51) (p : Addr) (name : ByteArray) (w : World) (hr : Kd.C k51 w A l.length l) (hp : w.cell? p = some (.string name)) :
    Calls Try.prog 46 #[.slice A l.length c, .func (.func 47) #[] #[.pointer (some p)]] w fun e w' => e = .returned (.int .i64 (firstAt (named51 name) l)) ∧ Below w.heap.size w w' := by
  have HR := Aside0.mk hr
  have HP := Aside0.mk hp
  have hbig : l.length ≤ 9223372036854775807 := hr.2.1
  clear hr hp
  have eg : ∀ args w, (callFunc 47 args).run Try.prog w = .ok (.enter 47 args) w := enters_of Try.func47 (by kernel_rfl) rfl
  go_enter Try.func46, Try.ntmps46
  go_wp2
  go_loopg [5, 8] l.length (fun gg _ s8 wr => ∃ kk : Nat, kk ≤ l.length ∧ l.length - kk ≤ gg ∧ s8 = .int .i64 kk ∧ Aside0 (Below w.heap.size w wr) ∧ Aside0 (∀ j, j < kk → named51 name (l.getD j z51) = false))
  case atStart => exact ⟨0, Nat.zero_le _, by omega, rfl, ⟨Below.refl _ w⟩, ⟨fun j hj => absurd hj (Nat.not_lt_zero _)⟩⟩
  case round =>
    obtain ⟨kk, hkk, hg, rfl, BW, AL⟩ := hrel
    by_cases hlt : kk < l.length
    · have hltz : (kk : Int) < (l.length : Int) := by omega
      obtain ⟨ad, A2, c2, e0, hx0, hx1, hx2, hx3, hx4, hx5, hx6, hl2, hi2⟩ := at_T51 HR.out (kk : Int) (by omega) hltz
      cases e0
      simp only [Int.toNat_natCast] at hx0 hx1 hx2 hx3 hx4 hx5 hx6
      have hcall := schema_Find.test wr (rd_T51 l (kk : Int)) A2 c2 p name ((BW.out.cell (World.block_lt_of_cell? w _ HP.out)).trans HP.out)
      replace hx0 := (BW.out.cell (World.block_lt_of_cell? w _ hx0)).trans hx0
      replace hx1 := (BW.out.cell (World.block_lt_of_cell? w _ hx1)).trans hx1
      replace hx2 := (BW.out.cell (World.block_lt_of_cell? w _ hx2)).trans hx2
      replace hx3 := (BW.out.cell (World.block_lt_of_cell? w _ hx3)).trans hx3
      replace hx4 := (BW.out.cell (World.block_lt_of_cell? w _ hx4)).trans hx4
      replace hx5 := (BW.out.cell (World.block_lt_of_cell? w _ hx5)).trans hx5
      replace hx6 := (BW.out.cell (World.block_lt_of_cell? w _ hx6)).trans hx6
      have HC := Aside0.mk hcall
      clear hcall hl2 hi2
      cases hq : named51 name (rd_T51 l (kk : Int)) with
      | true =>
        have HQ := Aside0.mk hq
        clear hq
        go_wp2_with (go_at_fn 47; refine HC.out.mono ?_; rintro e w' ⟨rfl, hb'⟩; rw [HQ.out])
        go_ret
        refine ⟨?_, BW.out.trans (hb'.mono BW.out.size)⟩
        rw [firstAt_hit z51 kk hlt (by have := HQ.out; unfold rd_T51 at this; rwa [Int.toNat_natCast] at this) AL.out]
        rfl
      | false =>
        have HQ := Aside0.mk hq
        clear hq
        go_wp2_with (go_at_fn 47; refine HC.out.mono ?_; rintro e w' ⟨rfl, hb'⟩; rw [HQ.out])
        go_roundg (l.length - (kk + 1))
        case measure => omega
        case rel =>
          refine ⟨kk + 1, by omega, by omega, by go_num, ⟨BW.out.trans (hb'.mono BW.out.size)⟩, ⟨fun j hj => ?_⟩⟩
          by_cases e : j = kk
          · subst e; have := HQ.out; unfold rd_T51 at this; rwa [Int.toNat_natCast] at this
          · exact AL.out j (by omega)
    · have hltz : ¬ (kk : Int) < (l.length : Int) := by omega
      have e : kk = l.length := by omega
      subst e
      go_wp2
      go_ret
      refine ⟨?_, BW.out⟩
      rw [firstAt_miss z51 AL.out]
      rfl
def schema_Find.f (l0_0 : List S51) (a1 : ByteArray) : Option (Int × Bool) := some (mx 0 (firstAt (named51 a1) l0_0), decide (firstAt (named51 a1) l0_0 ≥ 0))
set_option maxHeartbeats 2000000 in
set_option maxRecDepth 100000 in
theorem schema_Find.calls (A0_0 : Option Addr) (c0_0 : Nat) (l0_0 : List S51) (a1 : ByteArray) (r1 : Int) (r2 : Bool) (w : World) (hr0_0 : Kd.C k51 w A0_0 l0_0.length l0_0) (hc0_0 : l0_0.length ≤ c0_0) (h : schema_Find.f l0_0 a1 = some (r1, r2)) :
    Calls Try.prog 44 #[.agg #[.slice A0_0 l0_0.length c0_0], .string a1] w fun e w' => e = .returned (.tuple #[.int .i64 r1, .bool r2]) ∧ Below w.heap.size w w' := by
  have e := Option.some.inj h
  have e1 : mx 0 (firstAt (named51 a1) l0_0) = r1 := congrArg Prod.fst e
  have e2 : decide (firstAt (named51 a1) l0_0 ≥ 0) = r2 := congrArg Prod.snd e
  clear h e
  subst e1 e2
  have HB : Below w.heap.size w ((w.alloc (.cells #[.slice A0_0 l0_0.length c0_0] 24)).alloc (.cells #[.string a1] 9)) := ((Below.refl _ _).alloc (Nat.le_refl _) _).alloc (by simp) _
  have HR := Aside0.mk (Kd.C_below hr0_0 HB)
  have HB := Aside0.mk HB
  clear hr0_0
  have HC := Aside0.mk (blk_cell (blk_new (w.alloc (.cells #[.slice A0_0 l0_0.length c0_0] 24)) (.cells #[.string a1] 9)) 0)
  rw [World.size_alloc] at HC
  have HI := Aside0.mk (schema_Find.index A0_0 c0_0 l0_0 ⟨w.heap.size + 1, 0, none⟩ a1 _ HR.out HC.out)
  generalize firstAt (named51 a1) l0_0 = x at HI ⊢
  by_cases hx : 0 < x
  · have em : mx 0 x = x := by unfold mx; rw [if_pos hx]
    rw [em]; clear em
    go_enter Try.func44, Try.ntmps44
    go_wp2_with (go_at_call 46; refine HI.out.mono ?_; rintro e w' ⟨rfl, hb⟩)
    go_ret2
    exact ⟨rfl, HB.out.trans (hb.mono HB.out.size)⟩
  · have em : mx 0 x = 0 := by unfold mx; rw [if_neg hx]
    rw [em]; clear em
    go_enter Try.func44, Try.ntmps44
    go_wp2_with (go_at_call 46; refine HI.out.mono ?_; rintro e w' ⟨rfl, hb⟩)
    go_ret2
    exact ⟨rfl, HB.out.trans (hb.mono HB.out.size)⟩

end Go.Proofs.Ytonolmddjifgjaa.PEnt
