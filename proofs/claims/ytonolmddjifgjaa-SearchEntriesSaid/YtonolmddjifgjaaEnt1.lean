/- Printed by tools/more.py (a program of this session's own, over the print.py of the kit) out of the translation. -/
import Derived.Test.YtonolmddjifgjaaEnt0
import Derived.Test.YtonolmddjifgjaaEnt5
namespace Go.Proofs.Ytonolmddjifgjaa.PEnt
open Go.RowKit Go.Proofs.YtonolmddjifgjaaBridge Go.Proofs.YtonolmddjifgjaaMem Go.Proofs.YtonolmddjifgjaaW.PrintWords Go.Proofs.YtonolmddjifgjaaW.PrintLast Go.Proofs.YtonolmddjifgjaaW.PrintMore
attribute [local go_sem] max2_int min2_int max_two min_two max_three min_three max_four min_four   -- for this text's walks alone
set_option linter.unusedVariables false
set_option linter.unusedSimpArgs false


/-! ### schema_kept: function 37 -/
-- OVER none
/-- An entry as it lies: its words, and where its numbers lie. -/
structure Ent where
  x : S45
  A : Option Addr
  c : Nat
def Ent.cells (e : Ent) : List Value := [.string e.x.f0, .string e.x.f1, .slice e.A e.x.f2.length e.c]
def Ent.val (e : Ent) : Value := .agg #[.string e.x.f0, .string e.x.f1, .slice e.A e.x.f2.length e.c]
def Ent.ok (w : World) (e : Ent) : Prop := e.x.f2.length ≤ e.c ∧ (Kd.int .i64).C w e.A e.x.f2.length e.x.f2
theorem pick {α β : Type} (f : β → α) (Q : Nat → β → Prop) : ∀ (l : List α) (k : Nat), (∀ j p, l[j]? = some p → ∃ b, f b = p ∧ Q (k + j) b) → ∃ bs : List β, bs.map f = l ∧ ∀ j b, bs[j]? = some b → Q (k + j) b
  | [], _, _ => ⟨[], rfl, fun j b h => by simp at h⟩
  | p :: l, k, h => by
    obtain ⟨b, hb, hq⟩ := h 0 p rfl
    obtain ⟨bs, e, hs⟩ := pick f Q l (k + 1) (fun j p hj => by
      obtain ⟨b, h1, h2⟩ := h (j + 1) p (by simpa using hj)
      exact ⟨b, h1, by rw [Nat.add_assoc, Nat.add_comm 1 j]; exact h2⟩)
    refine ⟨b :: bs, by rw [List.map_cons, hb, e], fun j b' hj => ?_⟩
    cases j with
    | zero => simp at hj; subst hj; exact hq
    | succ j => have := hs j b' (by simpa using hj); rwa [Nat.add_assoc, Nat.add_comm 1 j] at this
/-- Where entries lie, cell by cell. -/
def LieAt (w : World) (A : Option Addr) (es : List Ent) : Prop := 0 < es.length → ∃ ad, A = some ad ∧ ∀ j e, es[j]? = some e → ∀ i u, e.cells[i]? = some u → w.cell? (ad.add (j * 3 + i)) = some u
theorem ents_of {w : World} {A : Option Addr} {l : List S45} (h : Kd.C k45 w A l.length l) : ∃ es : List Ent, es.map Ent.x = l ∧ (∀ e ∈ es, e.ok w) ∧ LieAt w A es := by
  rcases Nat.eq_zero_or_pos l.length with h0 | h0
  · have e : l = [] := List.eq_nil_of_length_eq_zero h0
    subst e
    exact ⟨[], rfl, fun e he => by simp at he, fun hp => absurd hp (by simp)⟩
  · obtain ⟨ad, eA, hc⟩ := h.2.2 h0
    obtain ⟨es, e1, e2⟩ := pick Ent.x (fun j e => e.ok w ∧ ∀ i u, e.cells[i]? = some u → w.cell? (ad.add (j * 3 + i)) = some u) l 0 (fun j p hj => by
      obtain ⟨cs, hl, hK, hcell⟩ := hc j p hj
      obtain ⟨A2, c2, rfl, l2, g2⟩ := k45_open hK
      exact ⟨⟨p, A2, c2⟩, rfl, ⟨l2, g2⟩, fun i u hu => by rw [Nat.zero_add]; exact hcell i u hu⟩)
    refine ⟨es, e1, fun e he => ?_, fun _ => ⟨ad, eA, fun j e hj => ?_⟩⟩
    · obtain ⟨j, hj, rfl⟩ := List.mem_iff_getElem.1 he
      exact (e2 j _ (List.getElem?_eq_getElem hj)).1
    · have := (e2 j e hj).2
      rwa [Nat.zero_add] at this
theorem LieAt.below {w w1 : World} {A : Option Addr} {es : List Ent} {B : Nat} (hB : w.heap.size ≤ B) (h : LieAt w A es) (hb : Below B w w1) : LieAt w1 A es := fun hp => by
  obtain ⟨ad, e, hc⟩ := h hp
  exact ⟨ad, e, fun j e hj i u hu => (hb.cell (Nat.lt_of_lt_of_le (World.block_lt_of_cell? w _ (hc j e hj i u hu)) hB)).trans (hc j e hj i u hu)⟩
/-- Is an entry stored? -/
def storedIn (l0 : List S51) (name : ByteArray) : Bool := decide (firstAt (named51 name) l0 ≥ 0) && (rd_T51 l0 (mx 0 (firstAt (named51 name) l0))).f6
theorem firstAt_lt {α : Type} (p : α → Bool) (xs : List α) : firstAt p xs < (xs.length : Int) := by
  unfold firstAt; split <;> omega
section
variable {Pe : Ent → Prop}
set_option maxHeartbeats 4000000 in
set_option maxRecDepth 100000 in
theorem schema_kept1_in (n : Nat) (hn : 1 ≤ n) (l pd ps : Nat) (A1 : Option Addr) (c1 : Nat) (es : List {e : Ent // Pe e}) (A0 : Option Addr) (c0 : Nat) (l0 : List S51)
    (J Jx : List {e : Ent // Pe e} → World → Prop) (Kp : World → World → Prop) (Kq : World → Prop) (w : World) (hbig : es.length ≤ 9223372036854775807)
    (hd : w.cell? ⟨pd, 0, none⟩ = some (.slice A1 es.length c1)) (hc0 : l0.length ≤ c0)
    (hfar : ∀ w1, Kq w1 → w1.cell? ⟨ps, 0, none⟩ = some (.slice A0 l0.length c0) ∧ w1.cell? ⟨pd, 0, none⟩ = some (.slice A1 es.length c1) ∧ Kd.C k51 w1 A0 l0.length l0 ∧ LieAt w1 A1 (es.map Subtype.val))
    (hKb : ∀ W W', Kq W → Below W.heap.size W W' → Kq W') (hKp : ∀ W W', Kq W → Kp W W' → Kq W') (hK0 : Kq w)
    (hJ : AbidesFrom w.heap.size J)
    (hY : ∀ pre x W1, J pre W1 → pre.length < es.length → YieldAt Fence.wide (n - 1) Try.prog l #[x.1.val] W1 fun e W' =>
      (e = .returned (.bool true) ∧ J (pre ++ [x]) W' ∧ Kp W1 W') ∨ (e = .returned (.bool false) ∧ Jx (pre ++ [x]) W'))
    (h0 : J [] w) :
    CallsIn Fence.wide n Try.prog 43 #[.func (.yield l) #[] #[], .pointer (some ⟨pd, 0, none⟩), .pointer (some ⟨ps, 0, none⟩)] w fun e W' => (∃ v, e = .returned v) ∧
      ((∃ ys, ys = es.filter (fun e => storedIn l0 e.1.x.f0) ∧ J ys W') ∨ (∃ pre, pre <+: es.filter (fun e => storedIn l0 e.1.x.f0) ∧ Jx pre W')) := by
  have HF := Aside0.mk hfar
  have HJ := Aside0.mk hJ
  have HY := Aside0.mk hY
  have HKb := Aside0.mk hKb
  have HKp := Aside0.mk hKp
  clear hfar hJ hY hKb hKp
  refine callsIn_of_wp Try.func43 rfl trivial ?_ rfl
  simp only [Try.ntmps43, List.size_toArray, List.length_cons, List.length_nil, Nat.reduceAdd, Nat.reduceSub, Array.replicate_succ, Array.replicate_zero, List.push_toArray, List.append_toArray, List.nil_append, List.cons_append]
  gi_wp2
  gi_loopw [11] (fun i wr => ∃ (kk : Nat), kk ≤ es.length ∧ i = .int .i64 kk ∧ Aside0 (J ((es.take kk).filter (fun e => storedIn l0 e.1.x.f0)) wr) ∧ Aside0 (Kq wr)) (fun i _ => es.length - (intOf i).toNat)
  case atStart => exact ⟨0, Nat.zero_le _, rfl, ⟨h0⟩, ⟨hK0⟩⟩
  case round =>
    obtain ⟨kk, hkk, rfl, HJs, HB⟩ := hrel
    by_cases hlt : kk < es.length
    · have hltz : (kk : Int) < (es.length : Int) := by omega
      obtain ⟨hps', hpd', hr, hlie⟩ := HF.out wr HB.out
      obtain ⟨ad, eA, hcl⟩ := hlie (by rw [List.length_map]; omega)
      cases eA
      obtain ⟨x, hxk⟩ : ∃ x, es[kk]? = some x := ⟨es[kk], List.getElem?_eq_getElem hlt⟩
      have hxm : (es.map Subtype.val)[kk]? = some x.1 := by rw [List.getElem?_map, hxk]; rfl
      have hx0 := hcl kk _ hxm 0 _ rfl
      have hx1 := hcl kk _ hxm 1 _ rfl
      have hx2 := hcl kk _ hxm 2 _ rfl
      rw [Nat.add_zero] at hx0
      rw [add_field _ _ 1 (by omega)] at hx1
      rw [add_field _ _ 2 (by omega)] at hx2
      have hts : (es.take (kk + 1)).filter (fun e => storedIn l0 e.1.x.f0) = (es.take kk).filter (fun e => storedIn l0 e.1.x.f0) ++ (if storedIn l0 x.1.x.f0 then [x] else []) := by
        rw [List.take_add_one, hxk, List.filter_append]; simp only [Option.toList_some, List.filter_cons, List.filter_nil]
      have hpl : ((es.take kk).filter (fun e => storedIn l0 e.1.x.f0)).length < es.length := by
        have := List.length_filter_le (fun e : {e : Ent // Pe e} => storedIn l0 e.1.x.f0) (es.take kk)
        have h2 := List.length_take_le kk es
        omega
      have hpf : (es.take (kk + 1)).filter (fun e => storedIn l0 e.1.x.f0) <+: es.filter (fun e => storedIn l0 e.1.x.f0) := (List.take_prefix (kk + 1) es).filter _
      have hfl := firstAt_lt (named51 x.1.x.f0) l0
      have hst : storedIn l0 x.1.x.f0 = (decide (firstAt (named51 x.1.x.f0) l0 ≥ 0) && (rd_T51 l0 (mx 0 (firstAt (named51 x.1.x.f0) l0))).f6) := rfl
      have hff : schema_Find.f l0 x.1.x.f0 = some (mx 0 (firstAt (named51 x.1.x.f0) l0), decide (firstAt (named51 x.1.x.f0) l0 ≥ 0)) := rfl
      generalize firstAt (named51 x.1.x.f0) l0 = fi at hst hff hfl
      have HTS := Aside0.mk hts; have HPL := Aside0.mk hpl; have HPF := Aside0.mk hpf; have HXK := Aside0.mk hxk
      clear hts hpl hpf hxk hxm hcl hr hlie hd
      have hboxed := blk_new wr (.cells #[.string x.1.x.f0, .string x.1.x.f1, .slice x.1.A x.1.x.f2.length x.1.c] 45)
      have HBX := Aside0.mk hboxed; clear hboxed
      have HJ1 := Aside0.mk (HJ.out _ _ _ none HJs.out (World.grownBy_alloc wr (.cells #[.string x.1.x.f0, .string x.1.x.f1, .slice x.1.A x.1.x.f2.length x.1.c] 45) none) (fun r e => by cases e))
      have HB1 := Aside0.mk (HKb.out _ _ HB.out ((Below.refl _ wr).alloc (Nat.le_refl _) (.cells #[.string x.1.x.f0, .string x.1.x.f1, .slice x.1.A x.1.x.f2.length x.1.c] 45)))
      clear HJs
      have hps2 := (World.cell?_alloc_lt wr (.cells #[.string x.1.x.f0, .string x.1.x.f1, .slice x.1.A x.1.x.f2.length x.1.c] 45) ⟨ps, 0, none⟩ (World.block_lt_of_cell? wr _ hps')).trans hps'
      by_cases hok : fi ≥ 0
      · have hm : mx 0 fi = fi := by unfold mx; split <;> omega
        rw [hm, decide_eq_true hok] at hst hff
        have HST := Aside0.mk hst; have HFF := Aside0.mk hff
        clear hst hff hm
        have hfi : (fi.toNat : Int) = fi := by omega
        cases hfg : (rd_T51 l0 fi).f6 with
        | false =>
          have HFG := Aside0.mk hfg; clear hfg
          gi_wp2_with (refine ⟨trivial, ?_⟩; gi_at_call 44; refine (callsIn_wide.2 (schema_Find.calls A0 c0 l0 x.1.x.f0 fi true _ (HF.out _ HB1.out).2.2.1 hc0 HFF.out)).mono ?_; rintro e w3 ⟨rfl, hb3⟩; have HB3 := Aside0.mk (HKb.out _ _ HB1.out hb3); have hps3 := (HF.out _ HB3.out).1; obtain ⟨ad0, A20, c20, e0, hy0, hy1, hy2, hy3, hy4, hy5, hy6, _, _⟩ := at_T51 (HF.out _ HB3.out).2.2.1 fi hok hfl; cases e0; rw [HFG.out] at hy6)
          refine ⟨fun _ h => (by cases h), ?_⟩
          gi_wp2
          go_roundw
          case rel => exact ⟨kk + 1, by omega, by go_num, ⟨by rw [HTS.out, HST.out, HFG.out]; simpa using HJ.out _ _ _ none HJ1.out (grown_below hb3) (fun r e => by cases e)⟩, HB3⟩
          case measure => simp [intOf]; omega
        | true =>
          have HFG := Aside0.mk hfg; clear hfg
          gi_wp2_with (refine ⟨trivial, ?_⟩; gi_at_call 44; refine (callsIn_wide.2 (schema_Find.calls A0 c0 l0 x.1.x.f0 fi true _ (HF.out _ HB1.out).2.2.1 hc0 HFF.out)).mono ?_; rintro e w3 ⟨rfl, hb3⟩; have HB3 := Aside0.mk (HKb.out _ _ HB1.out hb3); have hps3 := (HF.out _ HB3.out).1; obtain ⟨ad0, A20, c20, e0, hy0, hy1, hy2, hy3, hy4, hy5, hy6, _, _⟩ := at_T51 (HF.out _ HB3.out).2.2.1 fi hok hfl; cases e0; rw [HFG.out] at hy6; have hz0 := (hb3.cell (p := ⟨wr.heap.size, 0, none⟩) (by simp)).trans ((blk_cell HBX.out 0).trans rfl); have hz1 := (hb3.cell (p := ⟨wr.heap.size, 1, none⟩) (by simp)).trans ((blk_cell HBX.out 1).trans rfl); have hz2 := (hb3.cell (p := ⟨wr.heap.size, 2, none⟩) (by simp)).trans ((blk_cell HBX.out 2).trans rfl); obtain ⟨fn, tmps, assign, body, hy, hR⟩ := HY.out _ x w3 (HJ.out _ _ _ none HJ1.out (grown_below hb3) (fun r e => by cases e)) HPL.out; have HR := Aside0.mk hR; clear hR; dsimp only [Ent.val] at hy)
          refine HR.out.mono ?_
          rintro e W' (⟨rfl, hJ', hk⟩ | ⟨rfl, hJx'⟩)
          · gi_wp2
            go_roundw
            case rel => exact ⟨kk + 1, by omega, by go_num, ⟨by rw [HTS.out, HST.out, HFG.out]; exact hJ'⟩, ⟨HKp.out _ _ HB3.out hk⟩⟩
            case measure => simp [intOf]; omega
          · gi_wp2
            refine bodyPost_ret (results_none rfl _ _ _) rfl ?_
            exact ⟨⟨_, rfl⟩, .inr ⟨_, by have := HPF.out; rw [HTS.out, HST.out, HFG.out] at this; exact this, hJx'⟩⟩
      · have hm : mx 0 fi = 0 := by unfold mx; split <;> omega
        rw [hm, decide_eq_false hok] at hst hff
        have HST := Aside0.mk hst; have HFF := Aside0.mk hff
        clear hst hff hm
        gi_wp2_with (refine ⟨trivial, ?_⟩; gi_at_call 44; refine (callsIn_wide.2 (schema_Find.calls A0 c0 l0 x.1.x.f0 0 false _ (HF.out _ HB1.out).2.2.1 hc0 HFF.out)).mono ?_; rintro e w3 ⟨rfl, hb3⟩)
        refine ⟨fun _ h => (by cases h), ?_⟩
        gi_wp2
        go_roundw
        case rel => exact ⟨kk + 1, by omega, by go_num, ⟨by rw [HTS.out, HST.out]; simpa using HJ.out _ _ _ none HJ1.out (grown_below hb3) (fun r e => by cases e)⟩, ⟨HKb.out _ _ HB1.out hb3⟩⟩
        case measure => simp [intOf]; omega
    · have hltz : ¬ (kk : Int) < (es.length : Int) := by omega
      have ek : kk = es.length := by omega
      subst ek
      gi_wp2
      go_end0
      exact ⟨⟨_, rfl⟩, .inl (by have := HJs.out; rwa [List.take_length] at this)⟩
end
set_option maxHeartbeats 1000000 in
theorem schema_kept_in (n : Nat) (A0 : Option Addr) (c0 n0 : Nat) (A1 : Option Addr) (c1 n1 : Nat) (w : World) :
    CallsIn Fence.wide n Try.prog 37 #[.agg #[.slice A0 n0 c0], .agg #[.slice A1 n1 c1]] w fun e w' => e = .returned (.func (.func 43) #[] #[.pointer (some ⟨w.heap.size + 1, 0, none⟩), .pointer (some ⟨w.heap.size, 0, none⟩)]) ∧
      w' = (w.alloc (.cells #[.slice A0 n0 c0] 24)).alloc (.cells #[.slice A1 n1 c1] 27) := by
  refine callsIn_of_wp Try.func37 rfl trivial ?_ rfl
  simp only [Try.ntmps37, List.size_toArray, List.length_cons, List.length_nil, Nat.reduceAdd, Nat.reduceSub, Array.replicate_succ, Array.replicate_zero, List.push_toArray, List.append_toArray, List.nil_append, List.cons_append]
  gi_wp2
  go_ret
  exact ⟨rfl, rfl⟩

end Go.Proofs.Ytonolmddjifgjaa.PEnt
