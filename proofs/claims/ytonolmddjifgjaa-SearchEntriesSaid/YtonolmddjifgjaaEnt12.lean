/- Printed by tools/more.py (a program of this session's own, over the print.py of the kit) out of the translation. -/
import Derived.Test.YtonolmddjifgjaaEnt0
import Derived.Test.YtonolmddjifgjaaEnt1
import Derived.Test.YtonolmddjifgjaaEnt10
import Derived.Test.YtonolmddjifgjaaEnt11
namespace Go.Proofs.Ytonolmddjifgjaa.PEnt
open Go.RowKit Go.Proofs.YtonolmddjifgjaaBridge Go.Proofs.YtonolmddjifgjaaMem Go.Proofs.YtonolmddjifgjaaW.PrintWords Go.Proofs.YtonolmddjifgjaaW.PrintLast Go.Proofs.YtonolmddjifgjaaW.PrintMore
attribute [local go_sem] max2_int min2_int max_two min_two max_three min_three max_four min_four   -- for this text's walks alone
set_option linter.unusedVariables false
set_option linter.unusedSimpArgs false

-- OVER none
/-- An entry whose numbers have their mark (true), or none and none behind them (false). -/
def kE : Kd (S45 × Bool) := Kd.iso (Kd.pair Kd.string (Kd.pair Kd.string spare)) (fun x => (x.1.f0, x.1.f1, (x.1.f2, x.2)))
theorem kE_mkM (w : World) (base : Nat) (ok : Nat → Prop) (x : S45) {A : Option Addr} {c : Nat} (hc : x.f2.length + 1 ≤ c) (h : (Kd.int .i64).R 2 w base ok (.slice A (x.f2.length + 1) c) (x.f2 ++ [-7171])) : kE.M w base ok (x, true) [.string x.f0, .string x.f1, .slice A x.f2.length c] := ⟨[.string x.f0], [.string x.f1, .slice A x.f2.length c], rfl, rfl, ⟨[.string x.f1], [.slice A x.f2.length c], rfl, rfl, .inl ⟨rfl, A, c, rfl, hc, h⟩⟩⟩
theorem kE_mkN (w : World) (base : Nat) (ok : Nat → Prop) (x : S45) (h : x.f2 = []) : kE.M w base ok (x, false) [.string x.f0, .string x.f1, .slice none 0 0] := ⟨[.string x.f0], [.string x.f1, .slice none 0 0], rfl, rfl, ⟨[.string x.f1], [.slice none 0 0], rfl, rfl, .inr ⟨rfl, h, rfl⟩⟩⟩
theorem kE_open {w : World} {x : S45} {cs : List Value} (h : kE.K w (x, true) cs) : ∃ A c, cs = [.string x.f0, .string x.f1, .slice A x.f2.length c] ∧ x.f2.length + 1 ≤ c ∧ (Kd.int .i64).C w A (x.f2.length + 1) (x.f2 ++ [-7171]) := by
  obtain ⟨c0, c1, rfl, h0, ⟨c2, c3, rfl, h1, h2⟩⟩ := h
  rcases h2 with ⟨_, A, c, rfl, hc, hr⟩ | ⟨h, _⟩
  · exact ⟨A, c, by rw [show c0 = [.string x.f0] from h0, show c2 = [.string x.f1] from h1]; rfl, hc, hr⟩
  · cases h
/-- The kit's mark among entries. -/
def markE : S45 := ⟨⟨#[109, 97, 114, 107]⟩, ⟨#[]⟩, []⟩
def spared (l : List S45) : List (S45 × Bool) := l.map (fun x => (x, true))
theorem spared_len (l : List S45) : (spared l).length = l.length := List.length_map _
set_option maxHeartbeats 4000000 in
set_option maxRecDepth 100000 in
theorem lent_Entries (A0 : Option Addr) (c0 : Nat) (l0 : List S45) (w : World) (hr0 : Kd.C k45 w A0 l0.length l0) (hc0 : l0.length ≤ c0) (hl : l0.length < 2513169434916) (hin : ∀ e ∈ l0, e.f2.length < 17592186044415) :
    Calls Try.prog 22 #[.slice A0 l0.length c0] w fun e w' => ∃ A c, e = .returned (.slice A l0.length c) ∧ l0.length + 1 ≤ c ∧ Kd.S kE 45 w' w.heap.size (fun _ => True) (.slice A (l0.length + 1) c) (spared l0 ++ [(markE, false)]) ∧ Below w.heap.size w w' := by
  obtain ⟨es, em, eok, elie⟩ := ents_of hr0
  have elen : l0.length = es.length := by rw [← em, List.length_map]
  have EM := Aside0.mk em
  have HIN := Aside0.mk hin
  have HLIE := Aside0.mk elie
  have EOK := Aside0.mk eok
  have ELEN := Aside0.mk elen
  rw [elen] at hl
  rw [elen]
  clear hr0 hc0 em eok elie hin elen
  have HB := Aside0.mk (Below.refl w.heap.size w)
  go_enter Try.func22, Try.ntmps22
  go_wp2
  go_loopg [3, 4] es.length (fun gg v3 v4 wr => ∃ i : Nat, v4 = .int .i64 i ∧ i ≤ es.length ∧ es.length - i ≤ gg ∧ Aside0 (Kd.S kE 45 wr w.heap.size (fun _ => True) v3 (spared (l0.take i))) ∧ Aside0 (Below w.heap.size w wr))
  case atStart => exact ⟨0, rfl, Nat.zero_le _, by omega, ⟨Kd.S_nil _ _ _ _ _⟩, HB⟩
  case round =>
    clear HB
    obtain ⟨i, rfl, hi, hgg, HS, HB⟩ := hrel
    by_cases hlt : i < es.length
    · have hltz : (i : Int) < (es.length : Int) := by omega
      obtain ⟨ad, e0, hcl⟩ := HLIE.out (by omega)
      cases e0
      obtain ⟨x, hxk⟩ : ∃ x, es[i]? = some x := ⟨es[i], List.getElem?_eq_getElem hlt⟩
      have hm : x.x ∈ l0 := by rw [← EM.out]; exact List.mem_map_of_mem (List.mem_of_getElem? hxk)
      have htk : l0.take (i + 1) = l0.take i ++ [x.x] := by
        have hi2 : l0[i]? = some x.x := by rw [← EM.out, List.getElem?_map, hxk]; rfl
        rw [List.take_add_one, hi2]; rfl
      obtain ⟨hx0, hx1, hx2⟩ := at_ent hcl i x hxk
      obtain ⟨hxl, hxc⟩ := EOK.out x (List.mem_of_getElem? hxk)
      replace hx0 := (HB.out.cell (World.block_lt_of_cell? w _ hx0)).trans hx0
      replace hx1 := (HB.out.cell (World.block_lt_of_cell? w _ hx1)).trans hx1
      replace hx2 := (HB.out.cell (World.block_lt_of_cell? w _ hx2)).trans hx2
      have hbA : Below w.heap.size w (wr.alloc (.cells #[.string x.x.f0, .string x.x.f1, .slice x.A x.x.f2.length x.c] 45)) := HB.out.alloc HB.out.size _
      have hcall := lent_Int64s x.A x.c x.x.f2 _ (Kd.C_below hxc hbA) hxl (HIN.out _ hm)
      have PREP : ∀ w2 A c, Below (wr.alloc (.cells #[.string x.x.f0, .string x.x.f1, .slice x.A x.x.f2.length x.c] 45)).heap.size (wr.alloc (.cells #[.string x.x.f0, .string x.x.f1, .slice x.A x.x.f2.length x.c] 45)) w2 →
          (Kd.int .i64).R 2 w2 (wr.alloc (.cells #[.string x.x.f0, .string x.x.f1, .slice x.A x.x.f2.length x.c] 45)).heap.size (fun _ => True) (.slice A (x.x.f2.length + 1) c) (x.x.f2 ++ [-7171]) →
          (w2.cell? ⟨wr.heap.size, 0, none⟩ = some (.string x.x.f0) ∧ w2.cell? ⟨wr.heap.size, 1, none⟩ = some (.string x.x.f1) ∧ w2.cell? ⟨wr.heap.size, 2, none⟩ = some (.slice x.A x.x.f2.length x.c)) ∧ w2.frozen? ⟨wr.heap.size, 2, none⟩ = false ∧
          Kd.S kE 45 (w2.setCell ⟨wr.heap.size, 2, none⟩ (.slice A x.x.f2.length c)) w.heap.size (fun k => k < wr.heap.size) u3 (spared (l0.take i)) ∧
          (Kd.int .i64).R 2 (w2.setCell ⟨wr.heap.size, 2, none⟩ (.slice A x.x.f2.length c)) (wr.heap.size + 1) (fun _ => True) (.slice A (x.x.f2.length + 1) c) (x.x.f2 ++ [-7171]) ∧
          Below w.heap.size w (w2.setCell ⟨wr.heap.size, 2, none⟩ (.slice A x.x.f2.length c)) := by
        intro w2 A c hb hR
        have hxc2 := (hb.block wr.heap.size (blk_lt (blk_new wr _))).trans (blk_new wr (.cells #[.string x.x.f0, .string x.x.f1, .slice x.A x.x.f2.length x.c] 45))
        have hB1 : Below wr.heap.size wr (wr.alloc (.cells #[.string x.x.f0, .string x.x.f1, .slice x.A x.x.f2.length x.c] 45)) := (Below.refl _ wr).alloc (Nat.le_refl _) _
        have hsz : (wr.alloc (.cells #[.string x.x.f0, .string x.x.f1, .slice x.A x.x.f2.length x.c] 45)).heap.size = wr.heap.size + 1 := World.size_alloc ..
        rw [hsz] at hR
        refine ⟨⟨(blk_cell hxc2 0).trans rfl, (blk_cell hxc2 1).trans rfl, (blk_cell hxc2 2).trans rfl⟩, blk_frozen hxc2 2, ?_, ?_, ?_⟩
        · have h1 := Kd.S_bound (Kd.S_elderB HS.out wr.heap.size (Nat.le_refl _))
          have h2 := Kd.S_below (Kd.S_below h1 hB1) hb
          exact Kd.S_mono (Kd.S_far (p := ⟨wr.heap.size, 2, none⟩) h2 (fun k hk => hk.1.2) _) (fun k hk => hk.2.2.1)
        · exact Kd.R_mono (Kd.R_far (p := ⟨wr.heap.size, 2, none⟩) (Kd.R_types hR hxc2 (by decide)) (fun k hk => hk.2) _) (fun _ _ => trivial)
        · exact (HB.out.trans ((hB1.trans (hb.mono hB1.size)).mono HB.out.size)).setCell (p := ⟨wr.heap.size, 2, none⟩) HB.out.size _
      have HP := Aside0.mk PREP
      have HC := Aside0.mk hcall
      have HTK := Aside0.mk htk
      have hnn : x.x.f2.length < 17592186044415 := HIN.out _ hm
      have hlt2 : ((spared (l0.take i)).length + 1) * 56 ≤ 140737488355328 := by
        rw [spared_len, List.length_take]; omega
      have HLT := Aside0.mk hlt2
      clear PREP hcall hcl hxk hm htk hbA hxc hxl hlt2
      go_wp2_with (first | (go_at_call 35; refine HC.out.mono ?_; rintro e w2 ⟨A, c, rfl, hcc, hR, hb⟩; obtain ⟨⟨hy0, hy1, hy2⟩, hyf, hS2, hR2, hB2⟩ := HP.out w2 A c hb hR; have HS2 := Aside0.mk hS2; have HR2 := Aside0.mk hR2; have HB2 := Aside0.mk hB2; clear hR hb hS2 hR2 hB2) | ((with_reducible refine gate_builtin (b := .append) (xs := #[.tmp 20, .tmp 22]) rfl ?_); at_builtin; refine Kd.S_append kE (w0 := w) w.heap.size rfl (.tmp 20) (.tmp 22) 25 45 (.agg #[(.string ⟨#[]⟩), (.string ⟨#[]⟩), (.slice none 0 0)]) 56 rfl Try.underlying25 info45 rfl (by decide) (by omega) u3 (spared (l0.take i)) (x.x, true) [.string x.x.f0, .string x.x.f1, .slice A x.x.f2.length c] (fun _ => True) (fun k_ => some k_ = (.slice A (x.x.f2.length + 1) c : Value).ownBlock) rfl (by rw [World.size_setCell]; rfl) (kE_mkM _ _ _ x.x hcc (Kd.R_lower (Kd.R_tight rfl HR2.out) (by have := HB.out.size; omega))) ?aQ (fun _ _ => trivial) (Kd.S_mono HS2.out (fun k hk => ⟨trivial, fun e => by have h1 := Kd.R_base HR2.out k e.symm; omega⟩)) HB2.out HB2.out.size HLT.out ?_; (case aQ => exact fun k hk => ⟨trivial, fun e => by have h1 := Kd.R_base HR2.out k hk.symm; have h2 := Kd.S_lt HS.out k e.symm; omega⟩); intro v1 w1 hs1 hb1 hg1 hat1; have HS1 := Aside0.mk hs1; have HB1 := Aside0.mk hb1; clear hs1 hb1 hg1 hat1))
      go_roundg (es.length - (i + 1))
      case measure => omega
      case rel =>
        refine ⟨i + 1, by go_num, by omega, by omega, ⟨?_⟩, HB1⟩
        rw [HTK.out]
        have e1 : spared (l0.take i ++ [x.x]) = spared (l0.take i) ++ [(x.x, true)] := by unfold spared; rw [List.map_append]; rfl
        rw [e1]
        exact HS1.out
    · have hltz : ¬ (i : Int) < (es.length : Int) := by omega
      have ei : i = es.length := by omega
      subst ei
      rw [← ELEN.out, List.take_length] at HS
      have hlt2 : ((spared l0).length + 1) * 56 ≤ 140737488355328 := by
        rw [spared_len, ELEN.out]; omega
      have HLT := Aside0.mk hlt2
      clear hlt2
      go_wp2_with (first | ((with_reducible refine gate_builtin (b := .append) (xs := #[.tmp 24, .tmp 26]) rfl ?_); at_builtin; refine Kd.S_append kE (w0 := w) w.heap.size rfl (.tmp 24) (.tmp 26) 25 45 (.agg #[(.string ⟨#[]⟩), (.string ⟨#[]⟩), (.slice none 0 0)]) 56 rfl Try.underlying25 info45 rfl (by decide) (by omega) u3 (spared l0) (markE, false) [.string ⟨#[109, 97, 114, 107]⟩, .string ⟨#[]⟩, .slice none 0 0] (fun _ => True) (fun _ => False) rfl rfl (kE_mkN _ _ _ markE rfl) (fun k_ hk_ => hk_.elim) (fun _ _ => trivial) (Kd.S_mono HS.out (fun k hk => ⟨trivial, fun e => e⟩)) HB.out HB.out.size HLT.out ?_; intro v1 w1 hs1 hb1 hg1 hat1; obtain ⟨A, c, eo⟩ := Kd.S_slice hs1; rw [List.length_append, List.length_singleton, spared_len, ELEN.out] at eo; subst eo; have hle := (Kd.S_reads' hs1).2.1; have HS1 := Aside0.mk hs1; have HB1 := Aside0.mk hb1; obtain ⟨i0, hi0, _, _, _⟩ := info_parts info45; have hcut := cut_to (P := Try.prog) 25 45 .i64 Try.underlying25 hi0 A (es.length + 1) c (es.length : Int) (by omega) (by omega) hle; rw [Int.toNat_natCast] at hcut; clear hs1 hb1 hg1 hat1))
      go_ret
      exact ⟨A, c, by rfl, hle, HS1.out, HB1.out⟩

end Go.Proofs.Ytonolmddjifgjaa.PEnt
