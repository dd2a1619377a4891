/- Printed by tools/more.py (a program of this session's own, over the print.py of the kit) out of the translation. -/
import Derived.Test.YtonolmddjifgjaaEnt0
import Derived.Test.YtonolmddjifgjaaEnt1
import Derived.Test.YtonolmddjifgjaaEnt2
namespace Go.Proofs.Ytonolmddjifgjaa.PEnt
open Go.RowKit Go.Proofs.YtonolmddjifgjaaBridge Go.Proofs.YtonolmddjifgjaaMem Go.Proofs.YtonolmddjifgjaaW.PrintWords Go.Proofs.YtonolmddjifgjaaW.PrintLast Go.Proofs.YtonolmddjifgjaaW.PrintMore
attribute [local go_sem] max2_int min2_int max_two min_two max_three min_three max_four min_four   -- for this text's walks alone
set_option linter.unusedVariables false
set_option linter.unusedSimpArgs false


/-! ### schema_Stored: function 24 -/
-- OVER rounds=0 making=1
def schema_Stored.f (l0 : List S51) (l1 : List S45) : Option (List S45) :=
  if l1.length < 2513169434916 then (if l1.all (fun e => decide (e.f2.length < 17592186044416)) = true then some (l1.filter (fun e => storedIn l0 e.f0)) else none) else none
/-- Between two rounds of Stored: what has come lies in the row that the box holds. -/
def Gathers (w : World) (Bo : Nat) (pre : List {e : Ent // Ent.ok w e ∧ e.x.f2.length < 17592186044416}) (W : World) : Prop :=
  (∃ v, Boxed W Bo 25 v ∧ Kd.S k45 45 W w.heap.size (fun _ => True) v (pre.map (fun e => e.1.x)) ∧ (∀ k, v.ownBlock = some k → w.heap.size + 5 ≤ k)) ∧ Below w.heap.size w W ∧ w.heap.size + 5 ≤ W.heap.size
theorem gathers_own (w : World) (Bo B : Nat) (hB : w.heap.size ≤ B) : OwnFrom B (Gathers w Bo) := by
  intro pre W W' row h hg hr
  obtain ⟨⟨v, h1, h2, h5⟩, h3, h4⟩ := h
  refine ⟨⟨v, h1.kept hg (fun e => ?_), S_kept h2 hg (fun r e => (hr r e).2), h5⟩, ownFrom_below (Nat.le_refl _) hB pre W W' row h3 hg hr, Nat.le_trans h4 hg.size⟩
  obtain ⟨_, o, ho, hc⟩ := hr Bo e.symm
  rw [show W.heap[Bo]? = _ from h1] at ho
  cases ho; cases hc
/-- The loop's own variable: an entry in a box that is not the row that is gathered. -/
def Held {Pe : Ent → Prop} (Bo : Nat) (tm : Value → Value → Act) (x : {e : Ent // Pe e}) (a' : Act) (W : World) : Prop :=
  ∃ Bx, W.heap[Bx]? = some (.cells #[.string x.1.x.f0, .string x.1.x.f1, .slice x.1.A x.1.x.f2.length x.1.c] 45 (0, 0)) ∧ a' = tm (.pointer (some ⟨Bx, 0, none⟩)) x.1.val ∧ (∀ v, Boxed W Bo 25 v → v.ownBlock ≠ some Bx) ∧ Bo + 3 ≤ Bx
theorem held_own {Pe : Ent → Prop} (Bo B : Nat) (hB : Bo < B) (tm : Value → Value → Act) (x : {e : Ent // Pe e}) (a' : Act) : OwnFrom B (fun (_ : Unit) W => Held Bo tm x a' W) := by
  intro s W W' row h hg hr
  obtain ⟨Bx, h1, h2, h3, h4⟩ := h
  have hlt : Bx < W.heap.size := (Array.getElem?_eq_some_iff.1 h1).1
  refine ⟨Bx, (hg.block Bx hlt (fun e => ?_)).trans h1, h2, fun v hv => h3 v ?_, h4⟩
  · obtain ⟨_, o, ho, hc⟩ := hr Bx e.symm
    rw [h1] at ho
    cases ho; cases hc
  · exact (hg.block Bo (by omega) (fun e => by have := (hr Bo e.symm).1; omega)).symm.trans hv
/-- What a round keeps: what lay before the call, and two blocks. -/
def KeepTwo (n₀ b : Nat) (A B : World) : Prop := Below n₀ A B ∧ B.heap[b]? = A.heap[b]? ∧ B.heap[b + 1]? = A.heap[b + 1]?
theorem KeepTwo.trans {n₀ b : Nat} {A B C : World} (h : KeepTwo n₀ b A B) (k : KeepTwo n₀ b B C) : KeepTwo n₀ b A C := ⟨h.1.trans k.1, k.2.1.trans h.2.1, k.2.2.trans h.2.2⟩
theorem KeepTwo.put {n₀ b : Nat} {w : World} (hn : n₀ ≤ w.heap.size) (hb : b + 1 < w.heap.size) (W : World) (l : Nat) (o o' : Obj) (hl : w.heap.size ≤ l) (h : W.heap[l]? = some o) (h1 : o.isCells = false) (h2 : o.isWalk = false) : KeepTwo n₀ b W (W.putObj l o') :=
  ⟨belowK_b hn W l o o' hl h h1 h2, World.putObj_heap_other (by omega), World.putObj_heap_other (by omega)⟩
theorem KeepTwo.below {n₀ b : Nat} {A B : World} (hn : n₀ ≤ A.heap.size) (hb : b + 1 < A.heap.size) (h : Below A.heap.size A B) : KeepTwo n₀ b A B := ⟨h.mono hn, h.block _ (by omega), h.block _ (by omega)⟩
attribute [local go_sem] Oper.semAt_some
set_option maxHeartbeats 4000000 in
set_option maxRecDepth 100000 in
theorem schema_Stored.calls (A0_0 : Option Addr) (c0_0 : Nat) (l0_0 : List S51) (A1_0 : Option Addr) (c1_0 : Nat) (l1_0 : List S45) (r : List S45) (w : World) (hr0_0 : Kd.C k51 w A0_0 l0_0.length l0_0) (hc0_0 : l0_0.length ≤ c0_0) (hr1_0 : Kd.C k45 w A1_0 l1_0.length l1_0) (hc1_0 : l1_0.length ≤ c1_0) (h : schema_Stored.f l0_0 l1_0 = some r) :
    Calls Try.prog 24 #[.agg #[.slice A0_0 l0_0.length c0_0], .agg #[.slice A1_0 l1_0.length c1_0]] w fun e w' => ∃ v0_ : Value, e = .returned (v0_) ∧ Kd.S k45 45 w' w.heap.size (fun _ => True) v0_ r ∧ Below w.heap.size w w' := by
  have hl : l1_0.length < 2513169434916 := by
    unfold schema_Stored.f at h
    by_cases c : l1_0.length < 2513169434916
    · exact c
    · rw [if_neg c] at h; cases h
  have hal : l1_0.all (fun e => decide (e.f2.length < 17592186044416)) = true := by
    unfold schema_Stored.f at h
    rw [if_pos hl] at h
    by_cases c : l1_0.all (fun e => decide (e.f2.length < 17592186044416)) = true
    · exact c
    · rw [if_neg c] at h; cases h
  have er : l1_0.filter (fun e => storedIn l0_0 e.f0) = r := by unfold schema_Stored.f at h; rw [if_pos hl, if_pos hal] at h; exact Option.some.inj h
  clear h
  obtain ⟨es0, em, eok, elie⟩ := ents_of hr1_0
  obtain ⟨es, evm⟩ : ∃ es : List {e : Ent // Ent.ok w e ∧ e.x.f2.length < 17592186044416}, es.map Subtype.val = es0 := by
    refine ⟨es0.attachWith _ (fun e he => ⟨eok e he, ?_⟩), List.attachWith_map_subtype_val _⟩
    have := List.all_eq_true.1 hal e.x (by rw [← em]; exact List.mem_map_of_mem he)
    exact of_decide_eq_true this
  have elen : l1_0.length = es.length := by rw [← em, ← evm, List.length_map, List.length_map]
  have erm : r = (es.filter (fun e => storedIn l0_0 e.1.x.f0)).map (fun e => e.1.x) := by
    rw [← er, ← em, ← evm, List.map_map, List.filter_map]; rfl
  have HR0 := Aside0.mk hr0_0
  have HLIE := Aside0.mk elie
  have HEV := Aside0.mk evm
  have HERM := Aside0.mk erm
  have hbig : es.length ≤ 9223372036854775807 := by omega
  have hl' : es.length < 2513169434916 := by omega
  rw [elen]
  clear hr0_0 hr1_0 hal er em eok elie evm erm hl hc1_0
  refine (callsIn_wide (n := 5)).1 ?_
  refine callsIn_of_wp_marks Try.func24 rfl trivial ?_ rfl
  simp only [Try.ntmps24, List.size_toArray, List.length_cons, List.length_nil, Nat.reduceAdd, Nat.reduceSub, Array.replicate_succ, Array.replicate_zero, List.push_toArray, List.append_toArray, List.nil_append, List.cons_append]
  gi_wp2_with (refine ⟨trivial, ?_⟩; gi_at_call 37; refine (schema_kept_in _ A0_0 c0_0 l0_0.length A1_0 c1_0 es.length _).mono ?_; rintro e w' ⟨rfl, rfl⟩)
  have hB5 : Below w.heap.size w (((((w.alloc (.cells #[.slice A0_0 l0_0.length c0_0] 24)).alloc (.cells #[.slice A1_0 es.length c1_0] 27)).alloc (.cells #[.slice none 0 0] 25)).alloc (.cells #[.slice A0_0 l0_0.length c0_0] 24)).alloc (.cells #[.slice A1_0 es.length c1_0] 27)) :=
    (((((Below.refl _ w).alloc (Nat.le_refl _) _).alloc (by simp) _).alloc (by simp; omega) _).alloc (by simp; omega) _).alloc (by simp; omega) _
  have hps := (blk_alloc (blk_new (((w.alloc (.cells #[.slice A0_0 l0_0.length c0_0] 24)).alloc (.cells #[.slice A1_0 es.length c1_0] 27)).alloc (.cells #[.slice none 0 0] 25)) (.cells #[.slice A0_0 l0_0.length c0_0] 24)) (.cells #[.slice A1_0 es.length c1_0] 27))
  have hpd := (blk_new ((((w.alloc (.cells #[.slice A0_0 l0_0.length c0_0] 24)).alloc (.cells #[.slice A1_0 es.length c1_0] 27)).alloc (.cells #[.slice none 0 0] 25)).alloc (.cells #[.slice A0_0 l0_0.length c0_0] 24)) (.cells #[.slice A1_0 es.length c1_0] 27))
  have hBo : Boxed (((((w.alloc (.cells #[.slice A0_0 l0_0.length c0_0] 24)).alloc (.cells #[.slice A1_0 es.length c1_0] 27)).alloc (.cells #[.slice none 0 0] 25)).alloc (.cells #[.slice A0_0 l0_0.length c0_0] 24)).alloc (.cells #[.slice A1_0 es.length c1_0] 27)) (w.heap.size + 2) 25 (.slice none 0 0) := by
    have := ((Boxed.new ((w.alloc (.cells #[.slice A0_0 l0_0.length c0_0] 24)).alloc (.cells #[.slice A1_0 es.length c1_0] 27)) 25 (.slice none 0 0)).alloc (.cells #[.slice A0_0 l0_0.length c0_0] 24)).alloc (.cells #[.slice A1_0 es.length c1_0] 27)
    simpa using this
  have hsz : (((((w.alloc (.cells #[.slice A0_0 l0_0.length c0_0] 24)).alloc (.cells #[.slice A1_0 es.length c1_0] 27)).alloc (.cells #[.slice none 0 0] 25)).alloc (.cells #[.slice A0_0 l0_0.length c0_0] 24)).alloc (.cells #[.slice A1_0 es.length c1_0] 27)).heap.size = w.heap.size + 5 := by simp
  simp only [World.size_alloc, Nat.add_assoc, Nat.reduceAdd] at hps hpd
  simp only [Nat.add_assoc, Nat.reduceAdd]
  obtain ⟨W5, hW5⟩ : ∃ W5, (((((w.alloc (.cells #[.slice A0_0 l0_0.length c0_0] 24)).alloc (.cells #[.slice A1_0 es.length c1_0] 27)).alloc (.cells #[.slice none 0 0] 25)).alloc (.cells #[.slice A0_0 l0_0.length c0_0] 24)).alloc (.cells #[.slice A1_0 es.length c1_0] 27)) = W5 := ⟨_, rfl⟩
  rw [hW5] at hB5 hps hpd hBo hsz ⊢
  clear hW5
  have hge : w.heap.size ≤ W5.heap.size := by omega
  have hq : ∀ W, KeepTwo w.heap.size (w.heap.size + 3) W5 W → W.cell? ⟨w.heap.size + 3, 0, none⟩ = some (.slice A0_0 l0_0.length c0_0) ∧ W.cell? ⟨w.heap.size + 4, 0, none⟩ = some (.slice A1_0 es.length c1_0) ∧ Kd.C k51 W A0_0 l0_0.length l0_0 ∧ LieAt W A1_0 (es.map Subtype.val) := by
    intro W hW
    refine ⟨(blk_cell (hW.2.1.trans hps) 0).trans rfl, (blk_cell (hW.2.2.trans hpd) 0).trans rfl, Kd.C_below HR0.out (hB5.trans hW.1), ?_⟩
    rw [HEV.out]
    exact LieAt.below (Nat.le_refl _) HLIE.out (hB5.trans hW.1)
  have HQ := Aside0.mk hq
  have hcell1 := hpd
  refine wpIn_rangeFunc_ownH rfl (by omega) (gf := 43) (lb := #[.pointer (some ⟨w.heap.size + 4, 0, none⟩), .pointer (some ⟨w.heap.size + 3, 0, none⟩)]) rfl trivial (enters_of Try.func43 (by kernel_rfl) rfl)
    (encs := fun e : {e : Ent // Ent.ok w e ∧ e.x.f2.length < 17592186044416} => #[e.1.val]) (Kp := KeepTwo w.heap.size (w.heap.size + 3)) (S := fun ys => ys = es.filter (fun e => storedIn l0_0 e.1.x.f0)) (Sp := fun pre => pre <+: es.filter (fun e => storedIn l0_0 e.1.x.f0)) (N := es.length) (w0 := W5)
    (fun l J Jx W hW hJ hJx hY h0 => schema_kept1_in _ (by omega) l (w.heap.size + 4) (w.heap.size + 3) A1_0 c1_0 es A0_0 c0_0 l0_0 J Jx (KeepTwo w.heap.size (w.heap.size + 3)) (KeepTwo w.heap.size (w.heap.size + 3) W5) W hbig
      (HQ.out W (KeepTwo.below hge (by omega) hW)).2.1 hc0_0 HQ.out (fun X Y hX hY => hX.trans (KeepTwo.below (Nat.le_trans hge (by have := hX.1.size; exact this)) (by have := hX.1.size; omega) hY)) (fun X Y hX hY => hX.trans hY) (KeepTwo.below hge (by omega) hW) hJ hY h0)
    (fun h k => h.trans k) (KeepTwo.put hge (by omega)) (Below.refl _ _) (fun _ => rfl)
    (Gathers w (w.heap.size + 2)) (fun _ _ _ => False) (gathers_own w _ _ hge) (fun _ _ _ _ _ h _ _ => h)
    ⟨⟨_, hBo, Kd.S_nil _ _ _ _ _, fun k hk => by simp [Value.ownBlock] at hk⟩, hB5, by omega⟩
    (Held (w.heap.size + 2) (fun b y => { tmps := #[.agg #[.slice A0_0 l0_0.length c0_0], .agg #[.slice A1_0 es.length c1_0], .pointer (some ⟨w.heap.size, 0, none⟩), .pointer (some ⟨w.heap.size + 1, 0, none⟩), .slice none 0 0, .pointer (some ⟨w.heap.size + 2, 0, none⟩), b, .agg #[.slice A0_0 l0_0.length c0_0], .agg #[.slice A1_0 es.length c1_0], .func (.func 43) #[] #[.pointer (some ⟨w.heap.size + 4, 0, none⟩), .pointer (some ⟨w.heap.size + 3, 0, none⟩)], y, undef, undef, undef, undef, undef, undef, undef, undef, undef], defers := [] }))
    ?hAx ?assign ?body ?done ?stop
  case hAx => exact fun x a' => held_own _ _ (by omega) _ x a'
  case assign =>
    intro l pre x W K hI hK
    obtain ⟨⟨v0, hv0, hS0, hk0⟩, hB0, hn0⟩ := hI
    have HK := Aside0.mk hK
    clear hK
    dsimp only [Ent.val]
    gi_wp2
    refine HK.out _ _ ((KeepsOthers.alloc _ _).from _) (KeepTwo.below hB0.size (by omega) ((Below.refl _ W).alloc (Nat.le_refl _) _)) ⟨⟨v0, hv0.alloc _, Kd.S_below hS0 ((Below.refl _ W).alloc (Nat.le_refl _) _), hk0⟩, hB0.alloc hB0.size _, by simp; omega⟩ ⟨W.heap.size, blk_new W _, rfl, fun v hv e => ?_, by omega⟩
    have ev : v = v0 := by
      have h1 := hv0.alloc (.cells #[.string x.1.x.f0, .string x.1.x.f1, .slice x.1.A x.1.x.f2.length x.1.c] 45)
      have h2 := (show _ = some _ from hv).symm.trans h1
      injection h2 with h2; injection h2 with h2; simpa using h2
    subst ev
    obtain ⟨inner, ho⟩ := Kd.S_own hS0
    have := own_lt ho _ e
    omega
  case body =>
    rintro l pre x a' W hl ⟨rr, hrr⟩ ⟨⟨v, hbx, hS, hk0⟩, hB, hn⟩ ⟨Bx, hxc, rfl, hne, hlt⟩ hlen
    refine wpIn_block ?_
    refine wpIn_seq ?_
    have hx0 := (blk_cell hxc 0).trans rfl
    have hx1 := (blk_cell hxc 1).trans rfl
    have hx2 := (blk_cell hxc 2).trans rfl
    have hf2 := blk_frozen hxc 2
    have hBlt : Bx < W.heap.size := (Array.getElem?_eq_some_iff.1 hxc).1
    have HS := Aside0.mk hS; have HB := Aside0.mk hB; have HBX := Aside0.mk hbx; have HXC := Aside0.mk hxc; have HNE := Aside0.mk hne; have HK0 := Aside0.mk hk0
    clear hS hB hbx hxc hne hrr hk0
    refine region_in rfl ?_
    intro K hK
    have HK := Aside0.mk hK
    clear hK
    have HCl := slices_Clone_int64_int64.calls x.1.A x.1.c x.1.x.f2 x.1.x.f2 W (Kd.C_below x.2.1.2 HB.out) x.2.1.1 (by unfold slices_Clone_int64_int64.f; rw [if_pos x.2.2])
    go_wp2_with (go_at_call 38; refine HCl.mono ?_; rintro e w2 ⟨v2, rfl, hR2, hb2⟩; obtain ⟨Av, cv, rfl⟩ := Kd.R_slice hR2; have HXC2 := Aside0.mk ((hb2.block Bx hBlt).trans HXC.out); have hy0 := (blk_cell HXC2.out 0).trans rfl; have hy1 := (blk_cell HXC2.out 1).trans rfl; have hy2 := (blk_cell HXC2.out 2).trans rfl; have hg2 := blk_frozen HXC2.out 2; have HR2 := Aside0.mk hR2; have HB2 := Aside0.mk hb2; clear hR2 hb2)
    refine HK.out _ _ ?_
    clear HK
    show Code.wpIn _ _ _ _ _ _ _
    -- the world behind the store
    have hE : ∀ q, q ∈ (k45).E → q ≠ 45 := by decide
    have hSA := S_not HS.out HXC.out hE (HNE.out v HBX.out)
    have hSB := Kd.S_far (p := ⟨Bx, 2, none⟩) (Kd.S_below (Kd.S_bound hSA) HB2.out) (fun k hk => hk.1.2) (.slice Av x.1.x.f2.length cv)
    have hRA := Kd.R_far (p := ⟨Bx, 2, none⟩) (Kd.R_types HR2.out HXC2.out (by decide)) (fun k hk => hk.2) (.slice Av x.1.x.f2.length cv)
    have hBB := (HB.out.trans (HB2.out.mono HB.out.size)).setCell (p := ⟨Bx, 2, none⟩) (by show w.heap.size ≤ Bx; omega) (.slice Av x.1.x.f2.length cv)
    have hbo : Boxed (w2.setCell ⟨Bx, 2, none⟩ (.slice Av x.1.x.f2.length cv)) (w.heap.size + 2) 25 v := (Below.heap_setCell w2 ⟨Bx, 2, none⟩ _ (w.heap.size + 2) (by show w.heap.size + 2 ≠ Bx; omega)).trans ((HB2.out.block _ (by omega)).trans HBX.out)
    have hxs := blk_set HXC2.out 2 (.slice Av x.1.x.f2.length cv)
    have hko : KeepsOthers W (w2.setCell ⟨Bx, 2, none⟩ (.slice Av x.1.x.f2.length cv)) := (keeps_below HB2.out).trans (KeepsOthers.setCell _ _ _)
    have hk3 : (w2.setCell ⟨Bx, 2, none⟩ (.slice Av x.1.x.f2.length cv)).heap[w.heap.size + 3]? = W.heap[w.heap.size + 3]? := (Below.heap_setCell w2 ⟨Bx, 2, none⟩ _ _ (by show w.heap.size + 3 ≠ Bx; omega)).trans (HB2.out.block _ (by omega))
    have hk4 : (w2.setCell ⟨Bx, 2, none⟩ (.slice Av x.1.x.f2.length cv)).heap[w.heap.size + 3 + 1]? = W.heap[w.heap.size + 3 + 1]? := (Below.heap_setCell w2 ⟨Bx, 2, none⟩ _ _ (by show w.heap.size + 3 + 1 ≠ Bx; omega)).trans (HB2.out.block _ (by omega))
    have hsz2 : W.heap.size ≤ (w2.setCell ⟨Bx, 2, none⟩ (.slice Av x.1.x.f2.length cv)).heap.size := Nat.le_trans HB2.out.size (by simp [World.setCell])
    have hbw : Below w.heap.size W (w2.setCell ⟨Bx, 2, none⟩ (.slice Av x.1.x.f2.length cv)) := (HB2.out.mono HB.out.size).setCell (p := ⟨Bx, 2, none⟩) (by show w.heap.size ≤ Bx; omega) _
    obtain ⟨W2, hW2⟩ : ∃ W2, w2.setCell ⟨Bx, 2, none⟩ (.slice Av x.1.x.f2.length cv) = W2 := ⟨_, rfl⟩
    rw [hW2] at hSB hRA hBB hbo hxs hko hk3 hk4 hsz2 hbw ⊢
    clear hW2 hSA hE
    have hz0 := (blk_cell hxs 0).trans rfl
    have hz1 := (blk_cell hxs 1).trans rfl
    have hz2 := (blk_cell hxs 2).trans rfl
    have hoc := hbo.cell
    have hvl : ∀ k, v.ownBlock = some k → k < W.heap.size := by
      obtain ⟨inner, ho⟩ := Kd.S_own HS.out
      exact own_lt ho
    have hvt : ∀ k, v.ownBlock = some k → ∃ cells, W2.heap[k]? = some (.cells cells 45 (0, 0)) := Kd.S_typed hSB
    have hbv : some (w.heap.size + 2) ≠ v.ownBlock := by
      obtain ⟨inner, ho⟩ := Kd.S_own hSB
      exact hbo.not_row (by decide) ho
    have HSB := Aside0.mk hSB; have HRA := Aside0.mk hRA; have HBB := Aside0.mk hBB; have HBO := Aside0.mk hbo; have HXS := Aside0.mk hxs; have HKO := Aside0.mk hko; have HK3 := Aside0.mk hk3; have HK4 := Aside0.mk hk4; have HBW := Aside0.mk hbw; have HVL := Aside0.mk hvl; have HVT := Aside0.mk hvt; have HBV := Aside0.mk hbv
    clear hSB hRA hBB hbo hxs hko hk3 hk4 hbw hvl hvt hbv
    refine region_in rfl ?_
    intro K hK
    have HK := Aside0.mk hK
    clear hK
    go_wp2_with ((with_reducible refine gate_builtin (b := .append) (xs := #[.tmp 15, .tmp 17]) rfl ?_); at_builtin; refine Kd.S_append k45 (w0 := w) w.heap.size rfl (.tmp 15) (.tmp 17) 25 45 (.agg #[(.string ⟨#[]⟩), (.string ⟨#[]⟩), (.slice none 0 0)]) 56 rfl Try.underlying25 info45 rfl (by decide) (by omega) v (pre.map (fun e => e.1.x)) x.1.x [.string x.1.x.f0, .string x.1.x.f1, .slice Av x.1.x.f2.length cv] (fun _ => True) (fun k_ => some k_ = (.slice Av x.1.x.f2.length cv : Value).ownBlock) rfl rfl ?aP ?aQ ?aF ?aO ?aB ?aS ?aL ?_; (case aP => exact k45_mkM _ _ _ x.1.x (Kd.R_lower (Kd.R_tight rfl HRA.out) HB.out.size)); (case aQ => exact fun k hk => ⟨trivial, fun e => by have h1 := Kd.R_base HRA.out k hk.symm; have h2 := HVL.out k e.symm; omega⟩); (case aF => exact (fun _ _ => trivial)); (case aO => exact Kd.S_mono HSB.out (fun k hk => ⟨trivial, fun e => by have h1 := Kd.R_base HRA.out k e.symm; have h2 := hk.2.2.1; omega⟩)); (case aB => exact HBB.out); (case aS => exact HBB.out.size); (case aL => rw [List.length_map]; omega); intro v1 w1 hs1 hb1 hg1 hat1; obtain ⟨A1v, c1v, rfl⟩ := Kd.S_slice hs1; have hl1 : ((pre.map (fun e => e.1.x)) ++ [x.1.x]).length = pre.length + 1 := (by simp); rw [hl1] at hs1 hat1; have HS1 := Aside0.mk hs1; have HB1 := Aside0.mk hb1; have HG1 := Aside0.mk hg1; have HAT := Aside0.mk hat1; have hq := HBO.out.kept hg1 HBV.out; have hqc := hq.cell; have hqf := hq.frozen; have HQ1 := Aside0.mk hq; clear hs1 hb1 hg1 hat1 hq)
    refine HK.out _ _ ?_
    clear HK
    show _ ∧ _ ∧ Gathers w (w.heap.size + 2) (pre ++ [x]) _
    refine ⟨?_, ⟨?_, ?_, ?_⟩, ⟨⟨_, HQ1.out.set _, ?_, ?_⟩, ?_, ?_⟩⟩
    · exact (HKO.out.trans ((KeepsOthers.of_grownBy HG1.out (fun j o e ho => by obtain ⟨cells, hc⟩ := HVT.out j e; rw [hc] at ho; cases ho; rfl)).trans (KeepsOthers.setCell _ _ _))).from _
    · exact (HBW.out.grown HG1.out (by omega) (fun k hk => by have := HK0.out k hk; omega)).setCell (p := ⟨w.heap.size + 2, 0, none⟩) (by show w.heap.size ≤ w.heap.size + 2; omega) _
    · exact (Below.heap_setCell w1 ⟨w.heap.size + 2, 0, none⟩ _ _ (by show w.heap.size + 3 ≠ w.heap.size + 2; omega)).trans ((HG1.out.block _ (by omega) (fun e => by have := HK0.out _ e.symm; omega)).trans HK3.out)
    · exact (Below.heap_setCell w1 ⟨w.heap.size + 2, 0, none⟩ _ _ (by show w.heap.size + 3 + 1 ≠ w.heap.size + 2; omega)).trans ((HG1.out.block _ (by omega) (fun e => by have := HK0.out _ e.symm; omega)).trans HK4.out)
    · rw [List.map_append, List.map_singleton]
      refine Kd.S_mono (Kd.S_far (p := ⟨w.heap.size + 2, 0, none⟩) (S_not HS1.out HQ1.out (by decide) (fun e => ?_)) (fun k hk => hk.2) _) (fun _ _ => trivial)
      rcases HAT.out with h | ⟨b, h, hge2⟩
      · rw [h] at e; exact HBV.out e.symm
      · rw [h] at e; cases e; omega
    · intro k hk
      rcases HAT.out with h | ⟨b, h, hge2⟩
      · rw [h] at hk; exact HK0.out k hk
      · rw [h] at hk; cases hk; omega
    · exact HB1.out.setCell (p := ⟨w.heap.size + 2, 0, none⟩) (by show w.heap.size ≤ w.heap.size + 2; omega) _
    · have := HG1.out.size
      show w.heap.size + 5 ≤ (w1.setCell _ _).heap.size
      have h2 : (w1.setCell ⟨w.heap.size + 2, 0, none⟩ (Value.slice A1v (pre.length + 1) c1v)).heap.size = w1.heap.size := by simp [World.setCell]
      rw [h2]; omega
  case done =>
    rintro D ys W hD rfl ⟨⟨v, hv, hS, _⟩, hB, hn⟩ hK
    have hvc := hv.cell
    have HS := Aside0.mk hS
    have HB := Aside0.mk hB
    have HERM' := HERM
    clear hS hB hv
    gi_wp2
    refine ⟨by simp, .inl ⟨_, _, rfl, run_takeDeferred hK, ?_⟩⟩
    refine ⟨_, results_tmp rfl _ _ _, v, rfl, ?_, HB.out.trans (belowK_b (w := w) (Nat.le_refl _) W D _ _ (by omega) hK rfl rfl)⟩
    rw [HERM.out]
    exact S_kept HS.out (grownBy_putObj' W D _) (fun r e => by cases e; exact ⟨_, hK, rfl⟩)
  case stop =>
    rintro D c pre W _ _ h _
    exact h.elim

end Go.Proofs.Ytonolmddjifgjaa.PEnt
