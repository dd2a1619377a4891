/- Printed by tools/more.py (a program of this session's own, over the print.py of the kit) out of the translation. -/
import Derived.Test.YtonolmddjifgjaaEnt0
import Derived.Test.YtonolmddjifgjaaEnt1
import Derived.Test.YtonolmddjifgjaaEnt3
import Derived.Test.YtonolmddjifgjaaEnt5
import Derived.Test.YtonolmddjifgjaaEnt6
import Derived.Test.YtonolmddjifgjaaEnt7
namespace Go.Proofs.Ytonolmddjifgjaa.PEnt
open Go.RowKit Go.Proofs.YtonolmddjifgjaaBridge Go.Proofs.YtonolmddjifgjaaMem Go.Proofs.YtonolmddjifgjaaW.PrintWords Go.Proofs.YtonolmddjifgjaaW.PrintLast Go.Proofs.YtonolmddjifgjaaW.PrintMore
attribute [local go_sem] max2_int min2_int max_two min_two max_three min_three max_four min_four   -- for this text's walks alone
set_option linter.unusedVariables false
set_option linter.unusedSimpArgs false


/-! ### search_Entries: function 7 -/
-- OVER rounds=0 making=1
/-- Is a name among the names? -/
def hasName (fl : List ByteArray) (name : ByteArray) : Bool := fl.any (fun s => name.toList == s.toList)
theorem index_loop (fl : List ByteArray) (name : ByteArray) (d : Nat) : ∀ (k i : Nat), i + d = fl.length → d < k → fl.length < 9223372036854775807 → slices_Index_string_string.l0 k fl name (fl.length : Int) (i : Int) = some (if (fl.drop i).any (fun s => name.toList == s.toList) then ((i + (fl.drop i).findIdx (fun s => name.toList == s.toList) : Nat) : Int) else -1) := by
  induction d with
  | zero =>
    intro k i h1 h2 h3
    obtain ⟨k, rfl⟩ : ∃ m, k = m + 1 := ⟨k - 1, by omega⟩
    simp only [slices_Index_string_string.l0]
    rw [if_neg (by omega), List.drop_of_length_le (by omega)]; simp
  | succ d ih =>
    intro k i h1 h2 h3
    obtain ⟨k, rfl⟩ : ∃ m, k = m + 1 := ⟨k - 1, by omega⟩
    have hi : i < fl.length := by omega
    simp only [slices_Index_string_string.l0]
    rw [if_pos (by omega), if_pos (by omega), if_pos (by omega), show rdOf ByteArray.empty fl (i : Int) = fl[i] from by unfold rdOf; rw [Int.toNat_natCast, List.getD_eq_getElem?_getD, List.getElem?_eq_getElem hi]; rfl]
    rw [List.drop_eq_getElem_cons hi]
    by_cases c : name.toList = fl[i].toList
    · rw [if_pos c]
      have : (name.toList == fl[i].toList) = true := beq_iff_eq.2 c
      simp only [List.any_cons, this, Bool.true_or, if_true, List.findIdx_cons, cond_true, Nat.add_zero]
    · rw [if_neg c, show wrap64 ((i : Int) + 1) = ((i + 1 : Nat) : Int) from by unfold wrap64; omega, ih k (i + 1) (by omega) (by omega) h3]
      have : (name.toList == fl[i].toList) = false := beq_eq_false_iff_ne.2 c
      simp only [List.any_cons, this, Bool.false_or, List.findIdx_cons, cond_false]
      congr 1
      split
      · congr 1; omega
      · rfl
theorem contains_is (fl : List ByteArray) (name : ByteArray) (h : fl.length < 9223372036854775807) : slices_Contains_string_string.f (fl.length + 1) fl name = some (hasName fl name) := by
  unfold slices_Contains_string_string.f slices_Index_string_string.f
  have := index_loop fl name fl.length (fl.length + 1) 0 (by omega) (by omega) h
  rw [show ((0 : Nat) : Int) = 0 from rfl] at this
  rw [this]
  simp only [List.drop_zero, Option.bind_some]
  apply congrArg some
  unfold hasName
  cases hq : fl.any (fun s => name.toList == s.toList)
  · simp
  · simp
/-- Is an entry of this name left out? -/
def drops (fl : List ByteArray) (name : ByteArray) : Bool := decide (0 < fl.length) && !hasName fl name
set_option maxHeartbeats 2000000 in
set_option maxRecDepth 100000 in
theorem search_test (W : World) (e : Ent) (pf : Addr) (Af : Option Addr) (cf : Nat) (fl : List ByteArray) (hp : W.cell? pf = some (.slice Af fl.length cf)) (hc : fl.length ≤ cf) (hr : Kd.C Kd.string W Af fl.length fl) (hb : fl.length < 9223372036854775807) :
    Calls Try.prog 25 #[e.val, .pointer (some pf)] W fun r w' => r = .returned (.bool (drops fl e.x.f0)) ∧ Below W.heap.size W w' := by
  have hp2 := (World.cell?_alloc_lt W (.cells #[.string e.x.f0, .string e.x.f1, .slice e.A e.x.f2.length e.c] 45) pf (World.block_lt_of_cell? W pf hp)).trans hp
  have hr2 := Kd.C_below hr ((Below.refl W.heap.size W).alloc (Nat.le_refl _) (.cells #[.string e.x.f0, .string e.x.f1, .slice e.A e.x.f2.length e.c] 45))
  have HB := Aside0.mk ((Below.refl W.heap.size W).alloc (Nat.le_refl _) (.cells #[.string e.x.f0, .string e.x.f1, .slice e.A e.x.f2.length e.c] 45))
  have HC := Aside0.mk ((slices_Contains_string_string.calls (fl.length + 1) Af cf fl e.x.f0 _ _ hr2 hc (contains_is fl e.x.f0 hb)).mono (R' := fun r w' => r = .returned (.bool (hasName fl e.x.f0)) ∧ Below W.heap.size W w') (fun r w' h => ⟨h.1, HB.out.trans (h.2.below.mono HB.out.size)⟩))
  clear hp hr hr2
  dsimp only [Ent.val]
  unfold drops
  by_cases h0 : 0 < fl.length
  · have h0b : decide ((0 : Int) < (fl.length : Int)) = true := decide_eq_true (by omega)
    have h0c : decide (0 < fl.length) = true := decide_eq_true h0
    rw [h0c]
    clear h0c
    go_enter Try.func25, Try.ntmps25
    go_wp2_with (go_at_call 26; refine HC.out.mono ?_; rintro r w' ⟨rfl, hb'⟩)
    go_ret
    exact ⟨by simp, hb'⟩
  · have h0b : decide ((0 : Int) < (fl.length : Int)) = false := decide_eq_false (by omega)
    have h0c : decide (0 < fl.length) = false := decide_eq_false h0
    rw [h0c]
    clear h0c
    go_enter Try.func25, Try.ntmps25
    go_wp2
    go_ret
    exact ⟨by simp, HB.out⟩
theorem at_ent {w : World} {ad : Addr} {es : List Ent} (h : ∀ j e, es[j]? = some e → ∀ i u, e.cells[i]? = some u → w.cell? (ad.add (j * 3 + i)) = some u) (k : Nat) (e : Ent) (hk : es[k]? = some e) :
    w.cell? (ad.add (k * 3)) = some (.string e.x.f0) ∧ w.cell? ⟨(ad.add (k * 3)).block, (ad.add (k * 3)).off + 1, none⟩ = some (.string e.x.f1) ∧ w.cell? ⟨(ad.add (k * 3)).block, (ad.add (k * 3)).off + 2, none⟩ = some (.slice e.A e.x.f2.length e.c) := by
  have h0 := h k e hk 0 _ rfl
  have h1 := h k e hk 1 _ rfl
  have h2 := h k e hk 2 _ rfl
  rw [Nat.add_zero] at h0
  rw [add_field _ _ 1 (by omega)] at h1
  rw [add_field _ _ 2 (by omega)] at h2
  exact ⟨h0, h1, h2⟩
set_option maxHeartbeats 2000000 in
set_option maxRecDepth 100000 in
theorem search_index (A : Option Addr) (c : Nat) (es : List Ent) (pf : Addr) (Af : Option Addr) (cf : Nat) (fl : List ByteArray) (w : World) (hl : LieAt w A es) (hbig : es.length ≤ 9223372036854775807)
    (hp : w.cell? pf = some (.slice Af fl.length cf)) (hc : fl.length ≤ cf) (hr : Kd.C Kd.string w Af fl.length fl) (hb : fl.length < 9223372036854775807) :
    Calls Try.prog 36 #[.slice A es.length c, .func (.func 25) #[] #[.pointer (some pf)]] w fun e w' => e = .returned (.int .i64 (firstAt (fun e : Ent => drops fl e.x.f0) es)) ∧ Below w.heap.size w w' := by
  have HL := Aside0.mk hl
  have HP := Aside0.mk hp
  have HR := Aside0.mk hr
  clear hl hp hr
  have eg : ∀ args w, (callFunc 25 args).run Try.prog w = .ok (.enter 25 args) w := enters_of Try.func25 (by kernel_rfl) rfl
  go_enter Try.func36, Try.ntmps36
  go_wp2
  go_loopg [5, 8] es.length (fun gg _ s8 wr => ∃ kk : Nat, kk ≤ es.length ∧ es.length - kk ≤ gg ∧ s8 = .int .i64 kk ∧ Aside0 (Below w.heap.size w wr) ∧ Aside0 (∀ j e, j < kk → es[j]? = some e → drops fl e.x.f0 = false))
  case atStart => exact ⟨0, Nat.zero_le _, by omega, rfl, ⟨Below.refl _ w⟩, ⟨fun j _ hj => absurd hj (Nat.not_lt_zero _)⟩⟩
  case round =>
    obtain ⟨kk, hkk, hg, rfl, BW, AL⟩ := hrel
    by_cases hlt : kk < es.length
    · have hltz : (kk : Int) < (es.length : Int) := by omega
      obtain ⟨ad, e0, hcl⟩ := HL.out (by omega)
      cases e0
      obtain ⟨x, hxk⟩ : ∃ x, es[kk]? = some x := ⟨es[kk], List.getElem?_eq_getElem hlt⟩
      obtain ⟨hx0, hx1, hx2⟩ := at_ent hcl kk x hxk
      have hcall := search_test wr x pf Af cf fl ((BW.out.cell (World.block_lt_of_cell? w _ HP.out)).trans HP.out) hc (Kd.C_below HR.out BW.out) hb
      replace hx0 := (BW.out.cell (World.block_lt_of_cell? w _ hx0)).trans hx0
      replace hx1 := (BW.out.cell (World.block_lt_of_cell? w _ hx1)).trans hx1
      replace hx2 := (BW.out.cell (World.block_lt_of_cell? w _ hx2)).trans hx2
      have HX := Aside0.mk hxk
      dsimp only [Ent.val] at hcall
      have HC := Aside0.mk hcall
      clear hcall hcl hxk
      cases hq : drops fl x.x.f0 with
      | true =>
        have HQ := Aside0.mk hq
        clear hq
        go_wp2_with (go_at_fn 25; refine HC.out.mono ?_; rintro e w' ⟨rfl, hb'⟩; rw [HQ.out])
        go_ret
        refine ⟨?_, BW.out.trans (hb'.mono BW.out.size)⟩
        rw [firstAt_hit x kk hlt (by rw [List.getD_eq_getElem?_getD, HX.out]; exact HQ.out) (fun j hj => by
          have h1 : j < es.length := by omega
          rw [List.getD_eq_getElem?_getD, List.getElem?_eq_getElem h1]; exact AL.out j _ hj (List.getElem?_eq_getElem h1))]
        rfl
      | false =>
        have HQ := Aside0.mk hq
        clear hq
        go_wp2_with (go_at_fn 25; refine HC.out.mono ?_; rintro e w' ⟨rfl, hb'⟩; rw [HQ.out])
        go_roundg (es.length - (kk + 1))
        case measure => omega
        case rel =>
          refine ⟨kk + 1, by omega, by omega, by go_num, ⟨BW.out.trans (hb'.mono BW.out.size)⟩, ⟨fun j e hj he => ?_⟩⟩
          by_cases ej : j = kk
          · subst ej; rw [HX.out] at he; cases he; exact HQ.out
          · exact AL.out j e (by omega) he
    · have hltz : ¬ (kk : Int) < (es.length : Int) := by omega
      have ek : kk = es.length := by omega
      subst ek
      go_wp2
      go_ret
      refine ⟨?_, BW.out⟩
      have hm : firstAt (fun e : Ent => drops fl e.x.f0) es = -1 := firstAt_miss ⟨⟨⟨#[]⟩, ⟨#[]⟩, []⟩, none, 0⟩ (fun j hj => by
        rw [List.getD_eq_getElem?_getD, List.getElem?_eq_getElem hj]; exact AL.out j _ hj (List.getElem?_eq_getElem hj))
      rw [hm]
      rfl
/-- A row in block g, cell by cell. -/
def LieG (W : World) (g : Nat) (cs : List Ent) : Prop := ∀ j e, cs[j]? = some e → ∀ i u, e.cells[i]? = some u → W.cell? ⟨g, j * 3 + i, none⟩ = some u
def set3 (W : World) (g i : Nat) (x : Ent) : World := ((W.setCell ⟨g, i * 3, none⟩ (.string x.x.f0)).setCell ⟨g, i * 3 + 1, none⟩ (.string x.x.f1)).setCell ⟨g, i * 3 + 2, none⟩ (.slice x.A x.x.f2.length x.c)
theorem cells_cases {x : Ent} {i : Nat} {u : Value} (h : x.cells[i]? = some u) : i = 0 ∧ u = .string x.x.f0 ∨ i = 1 ∧ u = .string x.x.f1 ∨ i = 2 ∧ u = .slice x.A x.x.f2.length x.c := by
  unfold Ent.cells at h
  match i, h with
  | 0, h => exact .inl ⟨rfl, by simpa using h.symm⟩
  | 1, h => exact .inr (.inl ⟨rfl, by simpa using h.symm⟩)
  | 2, h => exact .inr (.inr ⟨rfl, by simpa using h.symm⟩)
  | k + 3, h => simp at h
theorem sc_same {W : World} {a : Addr} {v u : Value} (h : W.cell? a = some u) : (W.setCell a v).cell? a = some v := World.cell?_setCell_same' W a v (by rw [h]; rfl)
theorem sc_other {W : World} {g a b : Nat} {v : Value} (h : a ≠ b) : (W.setCell ⟨g, a, none⟩ v).cell? ⟨g, b, none⟩ = W.cell? ⟨g, b, none⟩ := World.cell?_setCell_other _ _ _ _ (fun e => h (by injection e))
theorem addr_ne {g a b : Nat} (h : a ≠ b) : (⟨g, a, none⟩ : Addr) ≠ ⟨g, b, none⟩ := fun e => h (by injection e)
theorem lie_set3 {W : World} {g : Nat} {cs : List Ent} (h : LieG W g cs) (i : Nat) (x : Ent) (hi : i < cs.length) : LieG (set3 W g i x) g (cs.set i x) := by
  intro j e hj k u hu
  obtain ⟨y, hy⟩ : ∃ y, cs[i]? = some y := ⟨cs[i], List.getElem?_eq_getElem hi⟩
  have c0 := h i y hy 0 _ rfl
  have c1 := h i y hy 1 _ rfl
  have c2 := h i y hy 2 _ rfl
  rw [Nat.add_zero] at c0
  have s0 : ((W.setCell ⟨g, i * 3, none⟩ (.string x.x.f0)).cell? ⟨g, i * 3, none⟩) = some (.string x.x.f0) := sc_same c0
  have d1 : ((W.setCell ⟨g, i * 3, none⟩ (.string x.x.f0)).cell? ⟨g, i * 3 + 1, none⟩) = some (.string y.x.f1) := (sc_other (by omega)).trans c1
  have s1 : (((W.setCell ⟨g, i * 3, none⟩ (.string x.x.f0)).setCell ⟨g, i * 3 + 1, none⟩ (.string x.x.f1)).cell? ⟨g, i * 3 + 1, none⟩) = some (.string x.x.f1) := sc_same d1
  have d2 : (((W.setCell ⟨g, i * 3, none⟩ (.string x.x.f0)).setCell ⟨g, i * 3 + 1, none⟩ (.string x.x.f1)).cell? ⟨g, i * 3 + 2, none⟩) = some (.slice y.A y.x.f2.length y.c) := (sc_other (by omega)).trans ((sc_other (by omega)).trans c2)
  have s2 : (set3 W g i x).cell? ⟨g, i * 3 + 2, none⟩ = some (.slice x.A x.x.f2.length x.c) := sc_same d2
  have t0 : (set3 W g i x).cell? ⟨g, i * 3, none⟩ = some (.string x.x.f0) := (sc_other (by omega)).trans ((sc_other (by omega)).trans s0)
  have t1 : (set3 W g i x).cell? ⟨g, i * 3 + 1, none⟩ = some (.string x.x.f1) := (sc_other (by omega)).trans s1
  by_cases ej : j = i
  · subst ej
    rw [List.getElem?_set_self hi] at hj
    cases hj
    rcases cells_cases hu with ⟨rfl, rfl⟩ | ⟨rfl, rfl⟩ | ⟨rfl, rfl⟩
    · exact t0
    · exact t1
    · exact s2
  · rw [List.getElem?_set_ne (by omega)] at hj
    have hk : k < 3 := by rcases cells_cases hu with ⟨rfl, _⟩ | ⟨rfl, _⟩ | ⟨rfl, _⟩ <;> omega
    exact (sc_other (by omega)).trans ((sc_other (by omega)).trans ((sc_other (by omega)).trans (h j e hj k u hu)))
/-- Entries whose own numbers lie in memory of the call's own, not in block g. -/
def Inn (base g : Nat) (W : World) (e : Ent) : Prop := (Kd.int .i64).R 2 W base (fun k => k ≠ g) (.slice e.A e.x.f2.length e.c) e.x.f2
theorem Inn.ok {base g : Nat} {W : World} {e : Ent} (h : Inn base g W e) : e.ok W := by
  obtain ⟨_, h2, h3⟩ := Kd.R_reads' h
  exact ⟨h2, h3⟩
theorem Inn.below {base g : Nat} {W W' : World} {e : Ent} (h : Inn base g W e) (hb : Below W.heap.size W W') : Inn base g W' e := Kd.R_below h hb
theorem Inn.set {base g o : Nat} {W : World} {e : Ent} (h : Inn base g W e) (u : Value) : Inn base g (W.setCell ⟨g, o, none⟩ u) e := Kd.R_far (p := ⟨g, o, none⟩) h (fun _ hk => hk) u
theorem Inn.set3 {base g i : Nat} {W : World} {e x : Ent} (h : Inn base g W e) : Inn base g (set3 W g i x) e := ((h.set _).set _).set _
theorem Inn.cells {base g : Nat} : ∀ (vs : List Value) (o : Nat) (W : World) (e : Ent), Inn base g W e → Inn base g (W.setCells g o vs) e
  | [], _, _, _, h => h
  | _ :: vs, o, _, e, h => Inn.cells vs (o + 1) _ e (h.set _)
theorem below_cells {B : Nat} {a : World} {g : Nat} (hg : B ≤ g) : ∀ (vs : List Value) (o : Nat) (w : World), Below B a w → Below B a (w.setCells g o vs)
  | [], _, _, h => h
  | _ :: vs, o, _, h => below_cells hg vs (o + 1) _ (h.setCell (p := ⟨g, o, none⟩) hg _)
/-- A row of the call's own as entries in its block. -/
theorem row_ents {w : World} {base : Nat} {v : Value} {xs : List S45} (h : Kd.S k45 45 w base (fun _ => True) v xs) (hn : 0 < xs.length) :
    ∃ g cap es, v = .slice (some ⟨g, 0, none⟩) es.length cap ∧ es.map Ent.x = xs ∧ base ≤ g ∧ g < w.heap.size ∧ es.length ≤ cap ∧ cap ≤ 9223372036854775807 ∧ LieG w g es ∧ (∀ e ∈ es, Inn base g w e) ∧ (∀ o, w.frozen? ⟨g, o, none⟩ = false) := by
  obtain ⟨_, inner, ho, hr⟩ := Kd.S_R h
  obtain ⟨hl, ho⟩ := ho
  rcases ho with ⟨_, h0⟩ | ⟨g, cap, cur, rfl, hg, hh, hc1, hc2, hcs, htk⟩
  · omega
  · obtain ⟨es, e1, e2⟩ := pick Ent.x (fun j e => Inn base g w e ∧ ∀ i u, e.cells[i]? = some u → w.cell? ⟨g, j * 3 + i, none⟩ = some u) xs 0 (fun j p hj => by
      obtain ⟨v2, hv, hR⟩ := k45_openM (hr.2 j p hj)
      obtain ⟨A2, c2, rfl⟩ := Kd.R_slice hR
      refine ⟨⟨p, A2, c2⟩, rfl, Kd.R_mono hR (fun k hk => fun e => hk.2 (by rw [e]; rfl)), fun i u hu => ?_⟩
      have hjl : j < xs.length := (List.getElem?_eq_some_iff.1 hj).1
      have hi3 : i < 3 := by rcases cells_cases hu with ⟨rfl, _⟩ | ⟨rfl, _⟩ | ⟨rfl, _⟩ <;> omega
      rw [Nat.zero_add, blk_cell hh]
      have hu2 : ((inner.drop (j * (k45).sz)).take (k45).sz)[i]? = some u := by rw [hv]; exact hu
      rw [List.getElem?_take] at hu2
      split at hu2
      · rw [List.getElem?_drop, ← htk, List.getElem?_take] at hu2
        split at hu2
        · rw [← Array.getElem?_toList]; exact hu2
        · cases hu2
      · cases hu2)
    have hle : es.length = xs.length := by rw [← e1, List.length_map]
    refine ⟨g, cap, es, by rw [hle], e1, hg, blk_lt hh, by omega, by simp only [maxLen] at hc2; omega, fun j e hj => ?_, fun e he => ?_, fun o => blk_frozen hh o⟩
    · have := (e2 j e hj).2; rwa [Nat.zero_add] at this
    · obtain ⟨j, hj, rfl⟩ := List.mem_iff_getElem.1 he
      exact (e2 j _ (List.getElem?_eq_getElem hj)).1
/-- A row from which entries are struck: how it stands at i, when j have been seen. -/
structure Del (keep : Ent → Bool) (es cs : List Ent) (i j : Nat) : Prop where
  len : cs.length = es.length
  cnt : i = ((es.take j).filter keep).length
  low : ∀ k, k < i → cs[k]? = ((es.take j).filter keep)[k]?
  high : ∀ k, j ≤ k → cs[k]? = es[k]?
theorem Del.start {keep : Ent → Bool} {es : List Ent} {k : Nat} (hk : k < es.length) (hd : ∀ e, es[k]? = some e → keep e = false) (hn : ∀ j e, j < k → es[j]? = some e → keep e = true) : Del keep es es k (k + 1) := by
  have h1 : (es.take k).filter keep = es.take k := List.filter_eq_self.2 (fun e he => by
    obtain ⟨j, hj, rfl⟩ := List.mem_iff_getElem.1 he
    rw [List.length_take] at hj
    rw [List.getElem_take]
    exact hn j _ (by omega) (List.getElem?_eq_getElem (by omega)))
  have h2 : (es.take (k + 1)).filter keep = es.take k := by
    rw [List.take_add_one, List.filter_append, h1, List.getElem?_eq_getElem hk]
    have := hd _ (List.getElem?_eq_getElem hk)
    simp [this]
  refine ⟨rfl, by rw [h2, List.length_take]; omega, fun j hj => ?_, fun _ _ => rfl⟩
  rw [h2, List.getElem?_take, if_pos hj]
theorem Del.lt {keep : Ent → Bool} {es cs : List Ent} {i j : Nat} (h : Del keep es cs i j) : i ≤ j := by
  have := List.length_filter_le keep (es.take j)
  have h2 := List.length_take_le j es
  have := h.cnt; omega
theorem Del.keep_ {keep : Ent → Bool} {es cs : List Ent} {i j : Nat} (h : Del keep es cs i j) {x : Ent} (hx : es[j]? = some x) (hi : i < j) (hk : keep x = true) : Del keep es (cs.set i x) (i + 1) (j + 1) := by
  have hf : (es.take (j + 1)).filter keep = (es.take j).filter keep ++ [x] := by
    rw [List.take_add_one, List.filter_append, hx]; simp [hk]
  have hj : j < es.length := (List.getElem?_eq_some_iff.1 hx).1
  refine ⟨by rw [List.length_set]; exact h.len, by rw [hf, List.length_append, ← h.cnt]; rfl, fun k hk' => ?_, fun k hk' => ?_⟩
  · rw [hf]
    by_cases e : k = i
    · subst e
      rw [List.getElem?_set_self (by rw [h.len]; omega), List.getElem?_append_right (by rw [← h.cnt]; omega), ← h.cnt]; simp
    · rw [List.getElem?_set_ne (by omega), List.getElem?_append_left (by rw [← h.cnt]; omega)]
      exact h.low k (by omega)
  · rw [List.getElem?_set_ne (by omega)]
    exact h.high k (by omega)
theorem Del.drop_ {keep : Ent → Bool} {es cs : List Ent} {i j : Nat} (h : Del keep es cs i j) {x : Ent} (hx : es[j]? = some x) (hk : keep x = false) : Del keep es cs i (j + 1) := by
  have hf : (es.take (j + 1)).filter keep = (es.take j).filter keep := by
    rw [List.take_add_one, List.filter_append, hx]; simp [hk]
  exact ⟨h.len, by rw [hf]; exact h.cnt, fun k hk' => by rw [hf]; exact h.low k hk', fun k hk' => h.high k (by omega)⟩
/-- clear of a row of several cells an element. -/
theorem run_clear_row {P : Program} (w : World) (t e ty : TypeId) (z : Value) (ht : P.underlying t = some (.slice e)) (hv : ∀ w, (zeroValue e).run P w = .ok z w) (b o n c : Nat) (hn : 0 < n)
    (hc : ∀ j, j < (Builtin.zeroCells z.cells n).toList.length → (w.cell? ⟨b, o + j, none⟩).isSome = true) (hf : ∀ j, j < (Builtin.zeroCells z.cells n).toList.length → w.frozen? ⟨b, o + j, none⟩ = false) (h1 : ∀ v ∈ (Builtin.zeroCells z.cells n).toList, v.oneCell' = true) :
    (Builtin.clear_ #[t] ty #[.slice (some ⟨b, o, none⟩) n c]).run P w = .ok (.tuple #[]) (w.setCells b o (Builtin.zeroCells z.cells n).toList) := by
  have hst := run_storeCells_cells (P := P) b o (Builtin.zeroCells z.cells n).toList 0 w (by simpa using hc) (by simpa using hf) h1
  simp only [Nat.add_zero] at hst
  obtain ⟨m, rfl⟩ : ∃ m, n = m + 1 := ⟨n - 1, by omega⟩
  simp [Builtin.clear_, run_underlying ht, hv, hst]
theorem zero_cells (n : Nat) : (Builtin.zeroCells (Value.agg #[.string ⟨#[]⟩, .string ⟨#[]⟩, .slice none 0 0]).cells n).toList.length = n * 3 ∧ ∀ v ∈ (Builtin.zeroCells (Value.agg #[.string ⟨#[]⟩, .string ⟨#[]⟩, .slice none 0 0]).cells n).toList, v.oneCell' = true := by
  constructor
  · simp [Builtin.zeroCells, Value.cells]
  · intro v hv
    simp only [Builtin.zeroCells, Array.toList_map, List.mem_map] at hv
    obtain ⟨i, _, rfl⟩ := hv
    have h3 : i % (Value.agg #[.string ⟨#[]⟩, .string ⟨#[]⟩, .slice none 0 0]).cells.size < 3 := Nat.mod_lt _ (by decide)
    generalize i % (Value.agg #[.string ⟨#[]⟩, .string ⟨#[]⟩, .slice none 0 0]).cells.size = k at h3
    match k, h3 with
    | 0, _ => rfl
    | 1, _ => rfl
    | 2, _ => rfl
theorem cells_low {g a : Nat} : ∀ (vs : List Value) (o : Nat) (k : Unit) (w : World), a < o → (w.setCells g o vs).cell? ⟨g, a, none⟩ = w.cell? ⟨g, a, none⟩
  | [], _, _, _, _ => rfl
  | _ :: vs, o, k, w, h => (cells_low vs (o + 1) k _ (by omega)).trans (sc_other (by omega))
theorem lie_reads {w : World} {g : Nat} {cs : List Ent} (h : LieG w g cs) (hok : ∀ e ∈ cs, e.ok w) (hl : cs.length ≤ 9223372036854775807) : Kd.C k45 w (some ⟨g, 0, none⟩) cs.length (cs.map Ent.x) := by
  refine ⟨List.length_map _, hl, fun _ => ⟨_, rfl, fun j p hj => ?_⟩⟩
  rw [List.getElem?_map] at hj
  obtain ⟨e, he, rfl⟩ := Option.map_eq_some_iff.1 hj
  obtain ⟨h2, h3⟩ := hok e (List.mem_of_getElem? he)
  refine ⟨e.cells, rfl, k45_mk w e.x h2 h3, fun i u hu => ?_⟩
  rw [Addr.add_lit, Nat.zero_add]
  exact h j e he i u hu
theorem Del.end_ {keep : Ent → Bool} {es cs : List Ent} {i : Nat} (h : Del keep es cs i es.length) : cs.take i = es.filter keep ∧ i ≤ es.length := by
  have hl := h.lt
  have hc := h.cnt
  have hlow := h.low
  rw [List.take_length] at hc hlow
  refine ⟨?_, hl⟩
  apply List.ext_getElem?
  intro k
  rw [List.getElem?_take]
  by_cases hk : k < i
  · rw [if_pos hk]; exact hlow k hk
  · rw [if_neg hk, List.getElem?_eq_none (by omega)]
set_option maxHeartbeats 4000000 in
set_option maxRecDepth 100000 in
theorem search_delete (base : Nat) (w0 w : World) (hw0 : w0.heap.size = base) (hb0 : Below base w0 w) (v : Value) (xs : List S45) (hS : Kd.S k45 45 w base (fun _ => True) v xs)
    (pf : Addr) (Af : Option Addr) (cf : Nat) (fl : List ByteArray) (hp : w0.cell? pf = some (.slice Af fl.length cf)) (hc : fl.length ≤ cf) (hr : Kd.C Kd.string w0 Af fl.length fl) (hb : fl.length < 9223372036854775807) :
    Calls Try.prog 23 #[v, .func (.func 25) #[] #[.pointer (some pf)]] w fun e w' => (∃ A c, e = .returned (.slice A (xs.filter (fun x => !drops fl x.f0)).length c) ∧ (xs.filter (fun x => !drops fl x.f0)).length ≤ c ∧ Kd.C k45 w' A (xs.filter (fun x => !drops fl x.f0)).length (xs.filter (fun x => !drops fl x.f0))) ∧ Below base w0 w' := by
  have eg : ∀ args w, (callFunc 25 args).run Try.prog w = .ok (.enter 25 args) w := enters_of Try.func25 (by kernel_rfl) rfl
  have hpb : pf.block < base := by rw [← hw0]; exact World.block_lt_of_cell? w0 _ hp
  have hpw : ∀ W, Below base w0 W → W.cell? pf = some (.slice Af fl.length cf) := fun W h => (h.cell hpb).trans hp
  have hrw : ∀ W, Below base w0 W → Kd.C Kd.string W Af fl.length fl := fun W h => Kd.C_below hr (by rw [hw0]; exact h)
  have HPW := Aside0.mk hpw
  have HRW := Aside0.mk hrw
  clear hp hr hpw hrw
  -- where nothing is struck
  have none_ : ∀ (A : Option Addr) (n c : Nat) (f : Int), v = .slice A n c → f = -1 → (xs.filter (fun x => !drops fl x.f0)) = xs →
      Calls Try.prog 36 #[.slice A n c, .func (.func 25) #[] #[.pointer (some pf)]] w (fun e w' => e = .returned (.int .i64 f) ∧ Below w.heap.size w w') →
      Calls Try.prog 23 #[v, .func (.func 25) #[] #[.pointer (some pf)]] w fun e w' => (∃ A c, e = .returned (.slice A (xs.filter (fun x => !drops fl x.f0)).length c) ∧ (xs.filter (fun x => !drops fl x.f0)).length ≤ c ∧ Kd.C k45 w' A (xs.filter (fun x => !drops fl x.f0)).length (xs.filter (fun x => !drops fl x.f0))) ∧ Below base w0 w' := by
    rintro A n c f rfl rfl hf hI
    rw [hf]
    obtain ⟨h1, h2, h3⟩ := Kd.S_reads' hS
    have HC := Aside0.mk h3
    have HI := Aside0.mk hI
    have HB0 := Aside0.mk hb0
    have HL := Aside0.mk h1
    clear hI h3 hS hb0 hf h1
    go_enter Try.func23, Try.ntmps23
    go_wp2_with (go_at_call 36; refine HI.out.mono ?_; rintro e w' ⟨rfl, hb'⟩)
    go_ret
    exact ⟨⟨A, c, by rw [HL.out]; rfl, by rw [← HL.out]; exact h2, Kd.C_below HC.out hb'⟩, HB0.out.trans (hb'.mono (by rw [← hw0]; exact HB0.out.size))⟩
  rcases Nat.eq_zero_or_pos xs.length with hx | hx
  · have e : xs = [] := List.eq_nil_of_length_eq_zero hx
    obtain ⟨A, c, hv⟩ := Kd.S_slice hS
    rw [hx] at hv
    refine none_ A 0 c (firstAt (fun e : Ent => drops fl e.x.f0) []) hv rfl (by rw [e]; rfl) ?_
    exact search_index A c [] pf Af cf fl w (fun h => absurd h (by simp)) (by simp) (HPW.out w hb0) hc (HRW.out w hb0) hb
  · obtain ⟨g, cap, es, rfl, em, hgb, hgl, hcap, hcb, hlie, hinn, hfz⟩ := row_ents hS hx
    have hlen : xs.length = es.length := by rw [← em, List.length_map]
    have hLA : LieAt w (some ⟨g, 0, none⟩) es := fun _ => ⟨_, rfl, fun j e hj i u hu => by rw [Addr.add_lit, Nat.zero_add]; exact hlie j e hj i u hu⟩
    have hI := search_index (some ⟨g, 0, none⟩) cap es pf Af cf fl w hLA (by omega) (HPW.out w hb0) hc (HRW.out w hb0) hb
    by_cases hh : es.findIdx (fun e : Ent => drops fl e.x.f0) < es.length
    · have hk1 : ∀ e, es[es.findIdx (fun e : Ent => drops fl e.x.f0)]? = some e → (fun e : Ent => !drops fl e.x.f0) e = false := fun e he => by
        rw [List.getElem?_eq_getElem hh] at he; cases he
        have := @List.findIdx_getElem _ (fun e : Ent => drops fl e.x.f0) es hh
        simp [this]
      have hk2 : ∀ j e, j < es.findIdx (fun e : Ent => drops fl e.x.f0) → es[j]? = some e → (fun e : Ent => !drops fl e.x.f0) e = true := fun j e hj he => by
        have := List.not_of_lt_findIdx hj
        obtain ⟨hl, he⟩ := List.getElem?_eq_some_iff.1 he
        subst he
        simp [this]
      have hst := Del.start (keep := fun e : Ent => !drops fl e.x.f0) hh hk1 hk2
      have hf1 : firstAt (fun e : Ent => drops fl e.x.f0) es = ((es.findIdx (fun e : Ent => drops fl e.x.f0) : Nat) : Int) := by unfold firstAt; rw [if_pos hh]
      rw [hf1] at hI
      clear hk1 hk2 hf1
      generalize es.findIdx (fun e : Ent => drops fl e.x.f0) = k0 at hh hst hI
      have hm1 : (((k0 : Nat) : Int) == -1) = false := by
        apply beq_eq_false_iff_ne.2; omega
      have HI := Aside0.mk hI
      have HST := Aside0.mk hst
      have HB0 := Aside0.mk hb0
      have HIN := Aside0.mk hinn
      have HLI := Aside0.mk hlie
      have HF := Aside0.mk hfz
      have hresw : ∀ w' cs i, Del (fun e : Ent => !drops fl e.x.f0) es cs i es.length → LieG w' g (cs.take i) → (∀ e ∈ es, Inn base g w' e) → ∀ c0 : Nat, i ≤ c0 → (∃ A c, (Ending.returned (.slice (some ⟨g, 0, none⟩) i c0)) = .returned (.slice A (xs.filter (fun x => !drops fl x.f0)).length c) ∧ (xs.filter (fun x => !drops fl x.f0)).length ≤ c ∧ Kd.C k45 w' A (xs.filter (fun x => !drops fl x.f0)).length (xs.filter (fun x => !drops fl x.f0))) := by
        intro w' cs i hd hlg hin c hic
        obtain ⟨he, hie⟩ := hd.end_
        have hcnt := hd.cnt
        rw [List.take_length] at hcnt
        have e2 : xs.filter (fun x => !drops fl x.f0) = (es.filter (fun e : Ent => !drops fl e.x.f0)).map Ent.x := by
          rw [← em, List.filter_map]; rfl
        have e3 : (xs.filter (fun x => !drops fl x.f0)).length = i := by rw [e2, List.length_map, hcnt]
        have hC := lie_reads hlg (fun e hm => (hin e (by rw [he] at hm; exact (List.mem_filter.1 hm).1)).ok) (by rw [List.length_take]; omega)
        have e4 : (cs.take i).length = i := by rw [he, hcnt]
        rw [e4, he, ← e2] at hC
        rw [e3]
        exact ⟨_, c, rfl, hic, hC⟩
      have HR := Aside0.mk hresw
      clear hI hst hb0 hinn hlie hfz hresw hS none_ hLA
      go_enter Try.func23, Try.ntmps23
      go_wp2_with (go_at_call 36; refine HI.out.mono ?_; rintro e w' ⟨rfl, hb'⟩)
      go_loopg [5, 6, 7] es.length (fun gg s5 s6 _ wr => ∃ (i j : Nat) (cs : List Ent), s5 = .int .i64 i ∧ s6 = .int .i64 j ∧ j ≤ es.length ∧ es.length - j ≤ gg ∧ i < j ∧ Aside0 (Del (fun e : Ent => !drops fl e.x.f0) es cs i j) ∧ Aside0 (LieG wr g cs) ∧ Aside0 (∀ e ∈ es, Inn base g wr e) ∧ Aside0 (∀ o, wr.frozen? ⟨g, o, none⟩ = false) ∧ Aside0 (Below base w0 wr) ∧ Aside0 (g < wr.heap.size))
      case atStart =>
        refine ⟨k0, k0 + 1, es, rfl, by go_num, by omega, by omega, by omega, HST, ⟨fun j e hj i u hu => ?_⟩, ⟨fun e he => (HIN.out e he).below hb'⟩, ⟨fun o => ?_⟩, ⟨HB0.out.trans (hb'.mono (by rw [← hw0]; exact HB0.out.size))⟩, ⟨by have := hb'.size; omega⟩⟩
        · exact (hb'.cell hgl).trans (HLI.out j e hj i u hu)
        · exact (hb'.frozen hgl).trans (HF.out o)
      case round =>
        obtain ⟨i, j, cs, rfl, rfl, hjn, hgg, hij, HD, HL, HI, HF, HB, HG⟩ := hrel
        by_cases hlt : j < es.length
        · have hltz : (j : Int) < (es.length : Int) := by omega
          obtain ⟨x, hxk⟩ : ∃ x, es[j]? = some x := ⟨es[j], List.getElem?_eq_getElem hlt⟩
          have hjc := HD.out.high j (Nat.le_refl _)
          rw [hxk] at hjc
          have hx0 : wr.cell? ⟨g, j * 3, none⟩ = some (.string x.x.f0) := by
            have := HL.out j x hjc 0 _ rfl
            rwa [Nat.add_zero] at this
          have hx1 := HL.out j x hjc 1 _ rfl
          have hx2 := HL.out j x hjc 2 _ rfl
          have BA := Aside0.mk (HB.out.alloc (by rw [← hw0]; exact HB.out.size) (.cells #[.string x.x.f0, .string x.x.f1, .slice x.A x.x.f2.length x.c] 45))
          have hcall := search_test (wr.alloc (.cells #[.string x.x.f0, .string x.x.f1, .slice x.A x.x.f2.length x.c] 45)) x pf Af cf fl (HPW.out _ BA.out) hc (HRW.out _ BA.out) hb
          have HX := Aside0.mk hxk
          dsimp only [Ent.val] at hcall
          have HC := Aside0.mk hcall
          clear hcall hxk hjc
          cases hq : drops fl x.x.f0 with
          | true =>
            have HQ := Aside0.mk hq
            clear hq
            go_wp2_with (go_at_fn 25; refine HC.out.mono ?_; rintro e w' ⟨rfl, hb'⟩; rw [HQ.out])
            have hb2 : Below wr.heap.size wr w' := ((Below.refl _ wr).alloc (Nat.le_refl _) _).trans (hb'.mono ((Below.refl _ wr).alloc (Nat.le_refl _) _).size)
            go_roundg (es.length - (j + 1))
            case measure => omega
            case rel =>
              refine ⟨i, j + 1, cs, by go_num, by go_num, by omega, by omega, by omega, ⟨HD.out.drop_ HX.out (by rw [HQ.out]; rfl)⟩, ⟨fun j e hj i u hu => ?_⟩, ⟨fun e he => (HI.out e he).below hb2⟩, ⟨fun o => ?_⟩, ⟨HB.out.trans (hb2.mono (by rw [← hw0]; exact HB.out.size))⟩, ⟨by have := hb2.size; have := HG.out; omega⟩⟩
              · exact (hb2.cell HG.out).trans (HL.out j e hj i u hu)
              · exact (hb2.frozen HG.out).trans (HF.out o)
          | false =>
            have HQ := Aside0.mk hq
            clear hq
            obtain ⟨y, hyk⟩ : ∃ y, cs[i]? = some y := ⟨cs[i]'(by rw [HD.out.len]; omega), List.getElem?_eq_getElem _⟩
            have HY := Aside0.mk hyk
            clear hyk
            have PREP : ∀ w', Below (wr.alloc (.cells #[.string x.x.f0, .string x.x.f1, .slice x.A x.x.f2.length x.c] 45)).heap.size (wr.alloc (.cells #[.string x.x.f0, .string x.x.f1, .slice x.A x.x.f2.length x.c] 45)) w' →
                (w'.cell? ⟨wr.heap.size, 0, none⟩ = some (.string x.x.f0) ∧ w'.cell? ⟨wr.heap.size, 0 + 1, none⟩ = some (.string x.x.f1) ∧ w'.cell? ⟨wr.heap.size, 0 + 2, none⟩ = some (.slice x.A x.x.f2.length x.c)) ∧
                (w'.cell? ⟨g, i * 3, none⟩ = some (.string y.x.f0) ∧ w'.cell? ⟨g, i * 3 + 1, none⟩ = some (.string y.x.f1) ∧ w'.cell? ⟨g, i * 3 + 2, none⟩ = some (.slice y.A y.x.f2.length y.c)) ∧
                (w'.frozen? ⟨g, i * 3, none⟩ = false ∧ w'.frozen? ⟨g, i * 3 + 1, none⟩ = false ∧ w'.frozen? ⟨g, i * 3 + 2, none⟩ = false) ∧ Below wr.heap.size wr w' := by
              intro w' hb'
              have hb2 : Below wr.heap.size wr w' := ((Below.refl _ wr).alloc (Nat.le_refl _) _).trans (hb'.mono ((Below.refl _ wr).alloc (Nat.le_refl _) _).size)
              have hxc := (hb'.block wr.heap.size (blk_lt (blk_new wr _))).trans (blk_new wr (.cells #[.string x.x.f0, .string x.x.f1, .slice x.A x.x.f2.length x.c] 45))
              have y0 := HL.out i y HY.out 0 _ rfl
              rw [Nat.add_zero] at y0
              refine ⟨⟨(blk_cell hxc 0).trans rfl, (blk_cell hxc 1).trans rfl, (blk_cell hxc 2).trans rfl⟩, ⟨(hb2.cell HG.out).trans y0, (hb2.cell HG.out).trans (HL.out i y HY.out 1 _ rfl), (hb2.cell HG.out).trans (HL.out i y HY.out 2 _ rfl)⟩, ⟨(hb2.frozen HG.out).trans (HF.out _), (hb2.frozen HG.out).trans (HF.out _), (hb2.frozen HG.out).trans (HF.out _)⟩, hb2⟩
            have PR := Aside0.mk PREP
            clear PREP
            go_wp2_with (go_at_fn 25; refine HC.out.mono ?_; rintro e w' ⟨rfl, hb'⟩; rw [HQ.out]; obtain ⟨⟨hz0, hz1, hz2⟩, ⟨hy0, hy1, hy2⟩, ⟨hf0, hf1, hf2⟩, hb2⟩ := PR.out w' hb')
            go_roundg (es.length - (j + 1))
            case measure => omega
            case rel =>
              have hbw : Below base w0 w' := HB.out.trans (hb2.mono (by rw [← hw0]; exact HB.out.size))
              have hL2 : LieG w' g cs := fun j e hj i u hu => (hb2.cell HG.out).trans (HL.out j e hj i u hu)
              refine ⟨i + 1, j + 1, cs.set i x, by go_num, by go_num, by omega, by omega, by omega, ⟨HD.out.keep_ HX.out hij (by rw [HQ.out]; rfl)⟩, ⟨lie_set3 hL2 i x (by rw [HD.out.len]; omega)⟩, ⟨fun e he => ((HI.out e he).below hb2).set3⟩, ⟨fun o => ?_⟩, ⟨((hbw.setCell (p := ⟨g, i * 3, none⟩) hgb _).setCell (p := ⟨g, i * 3 + 1, none⟩) hgb _).setCell (p := ⟨g, i * 3 + 2, none⟩) hgb _⟩, ⟨?_⟩⟩
              · simp only [World.frozen?_setCell]
                exact (hb2.frozen HG.out).trans (HF.out o)
              · have := hb2.size; have := HG.out; simp only [World.size_setCell]; omega
        · have hltz : ¬ (j : Int) < (es.length : Int) := by omega
          have ej : j = es.length := by omega
          subst ej
          have hclr := run_clear_row (P := Try.prog) wr 25 45 0 (Value.agg #[.string ⟨#[]⟩, .string ⟨#[]⟩, .slice none 0 0]) rfl (fun w => Try.zeroValue45 w) g (i * 3) (es.length - i) (cap - i) (by omega) (fun k hk => ?_) (fun k hk => HF.out _) (zero_cells _).2
          · generalize (Builtin.zeroCells (Value.agg #[.string ⟨#[]⟩, .string ⟨#[]⟩, .slice none 0 0]).cells (es.length - i)).toList = zs at hclr
            have HCL := Aside0.mk hclr
            clear hclr
            go_wp2
            rw [HCL.out]
            go_wp2
            go_ret
            have hfin := HR.out (wr.setCells g (i * 3) zs) cs i HD.out (fun j e hj k u hu => ?_) (fun e he => Inn.cells _ _ _ _ (HI.out e he)) cap (by omega)
            · obtain ⟨A, c, h1, h2, h3⟩ := hfin
              exact ⟨⟨A, c, Eq.trans (b := Ending.returned (.slice (some ⟨g, 0, none⟩) i cap)) (by rfl) h1, h2, h3⟩, below_cells hgb _ _ _ HB.out⟩
            have hji : j < i := by
              have := (List.getElem?_eq_some_iff.1 hj).1
              rw [List.length_take] at this; omega
            rw [List.getElem?_take, if_pos hji] at hj
            have hk3 : k < 3 := by rcases cells_cases hu with ⟨rfl, _⟩ | ⟨rfl, _⟩ | ⟨rfl, _⟩ <;> omega
            exact (cells_low _ (i * 3) () wr (by omega)).trans (HL.out j e hj k u hu)
          · rw [(zero_cells _).1] at hk
            obtain ⟨y, hy⟩ : ∃ y, cs[i + k / 3]? = some y := ⟨cs[i + k / 3]'(by rw [HD.out.len]; omega), List.getElem?_eq_getElem _⟩
            obtain ⟨u, hu⟩ : ∃ u, y.cells[k % 3]? = some u := ⟨y.cells[k % 3]'(by show k % 3 < 3; omega), List.getElem?_eq_getElem _⟩
            rw [show i * 3 + k = (i + k / 3) * 3 + k % 3 from by omega, HL.out _ y hy _ u hu]; rfl
    · refine none_ _ es.length cap _ rfl (by unfold firstAt; rw [if_neg hh]) ?_ hI
      refine List.filter_eq_self.2 (fun x hx2 => ?_)
      rw [← em] at hx2
      obtain ⟨e, he, rfl⟩ := List.mem_map.1 hx2
      have : drops fl e.x.f0 = false := by
        rcases Bool.eq_false_or_eq_true (drops fl e.x.f0) with h | h
        · exact absurd (List.findIdx_lt_length_of_exists ⟨e, he, h⟩) hh
        · exact h
      rw [this]; rfl
def search_Entries.f (l0 : List S51) (l1 : List S45) (l2 : List ByteArray) : Option (List S45) :=
  if l2.length < 9223372036854775807 then (schema_Stored.f l0 l1).bind fun r => some (r.filter (fun x => !drops l2 x.f0)) else none
set_option maxHeartbeats 2000000 in
set_option maxRecDepth 100000 in
theorem search_Entries.calls (A0 : Option Addr) (c0 : Nat) (l0 : List S51) (A1 : Option Addr) (c1 : Nat) (l1 : List S45) (A2 : Option Addr) (c2 : Nat) (l2 : List ByteArray) (r : List S45) (w : World) (hr0 : Kd.C k51 w A0 l0.length l0) (hc0 : l0.length ≤ c0) (hr1 : Kd.C k45 w A1 l1.length l1) (hc1 : l1.length ≤ c1) (hr2 : Kd.C Kd.string w A2 l2.length l2) (hc2 : l2.length ≤ c2) (h : search_Entries.f l0 l1 l2 = some r) :
    Calls Try.prog 7 #[.agg #[.slice A0 l0.length c0], .agg #[.slice A1 l1.length c1], .slice A2 l2.length c2] w fun e w' => (∃ A c, e = .returned (.slice A r.length c) ∧ r.length ≤ c ∧ Kd.C k45 w' A r.length r) ∧ Below w.heap.size w w' := by
  unfold search_Entries.f at h
  have hb : l2.length < 9223372036854775807 := by
    by_cases c : l2.length < 9223372036854775807
    · exact c
    · rw [if_neg c] at h; cases h
  rw [if_pos hb] at h
  obtain ⟨q, hq, h⟩ := Option.bind_eq_some_iff.1 h
  have er := Option.some.inj h
  subst er
  clear h
  obtain ⟨w3, e3⟩ : ∃ w3, w3 = ((w.alloc (.cells #[.slice A0 l0.length c0] 24)).alloc (.cells #[.slice A1 l1.length c1] 27)).alloc (.cells #[.slice A2 l2.length c2] 28) := ⟨_, rfl⟩
  have hB : Below w.heap.size w w3 := by
    rw [e3]; exact ((((Below.refl _ w).alloc (Nat.le_refl _) _).alloc (by simp) _).alloc (by simp; omega) _)
  have hp : w3.cell? ⟨w.heap.size + 2, 0, none⟩ = some (.slice A2 l2.length c2) := by
    have := blk_cell (blk_new ((w.alloc (.cells #[.slice A0 l0.length c0] 24)).alloc (.cells #[.slice A1 l1.length c1] 27)) (.cells #[.slice A2 l2.length c2] 28)) 0
    rw [e3]
    simpa using this
  have hSt := schema_Stored.calls A0 c0 l0 A1 c1 l1 q w3 (Kd.C_below hr0 hB) hc0 (Kd.C_below hr1 hB) hc1 hq
  have hDe : ∀ w' v, Below w3.heap.size w3 w' → Kd.S k45 45 w' w3.heap.size (fun _ => True) v q → _ := fun w' v hb' hS => search_delete w3.heap.size w3 w' rfl hb' v q hS ⟨w.heap.size + 2, 0, none⟩ A2 c2 l2 hp hc2 (Kd.C_below hr2 hB) hb
  have HB := Aside0.mk hB
  have HS := Aside0.mk hSt
  have HD := Aside0.mk hDe
  have E3 := Aside0.mk e3
  clear hB hp hSt hDe hr0 hr1 hr2 hq e3
  go_enter Try.func7, Try.ntmps7
  go_wp2_with (first | (go_at_call 24; rw [← E3.out]; refine HS.out.mono ?_; rintro e w' ⟨v, rfl, hS, hb'⟩) | (go_at_call 23; refine (HD.out w' v hb' hS).mono ?_; rintro e w2 ⟨⟨A, c, rfl, hl, hC⟩, hb2⟩))
  go_ret
  exact ⟨⟨A, c, by rfl, hl, hC⟩, HB.out.trans (hb2.mono HB.out.size)⟩

end Go.Proofs.Ytonolmddjifgjaa.PEnt
