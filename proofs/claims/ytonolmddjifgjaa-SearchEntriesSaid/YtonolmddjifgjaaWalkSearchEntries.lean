/- The walk of the law SearchEntries: what it computes, out of its callees' contracts. -/
import Derived.Test.YtonolmddjifgjaaEnt
import Derived.Deep.RegionHeld3
namespace Go.Proofs.Ytonolmddjifgjaa.PEnt
open Go.RowKit Go.Proofs.YtonolmddjifgjaaBridge Go.Proofs.YtonolmddjifgjaaMem Go.Proofs.YtonolmddjifgjaaW.PrintWords Go.Proofs.YtonolmddjifgjaaW.PrintLast Go.Proofs.YtonolmddjifgjaaW.PrintMore
set_option linter.unusedVariables false
set_option linter.unusedSimpArgs false
theorem keep3 {a3 a4 a7 : Addr} {v3 v4 v7 : Value} {W0 W W' : World} (hb : Below W.heap.size W W') (hS : W.cell? a3 = some v3 ∧ W.cell? a4 = some v4 ∧ W.cell? a7 = some v7 ∧ Below W0.heap.size W0 W) : W'.cell? a3 = some v3 ∧ W'.cell? a4 = some v4 ∧ W'.cell? a7 = some v7 ∧ Below W0.heap.size W0 W' :=
  ⟨(hb.cell (World.block_lt_of_cell? W _ hS.1)).trans hS.1, (hb.cell (World.block_lt_of_cell? W _ hS.2.1)).trans hS.2.1, (hb.cell (World.block_lt_of_cell? W _ hS.2.2.1)).trans hS.2.2.1, hS.2.2.2.trans (hb.mono hS.2.2.2.size)⟩
theorem drawn_below {W W' : World} (h : Drawn0 W W') : Below W.heap.size W W' := by
  obtain ⟨nd, rfl⟩ := h
  exact pw_below_drewN (Below.refl _ _) nd
theorem ofS {p q r : Prop} {W0 W : World} (h : p ∧ q ∧ r ∧ Below W0.heap.size W0 W) : Below W0.heap.size W0 W := h.2.2.2
set_option maxHeartbeats 4000000 in
set_option maxRecDepth 100000 in
theorem law_walk (A0 : Option Addr) (c0 : Nat) (l0 : List S51) (A1 : Option Addr) (c1 : Nat) (l1 : List S45) (A2 : Option Addr) (c2 : Nat) (l2 : List ByteArray) (w : World)
    (hr0 : Kd.C k51 w A0 l0.length l0) (hc0 : l0.length ≤ c0) (hr1 : Kd.C k45 w A1 l1.length l1) (hc1 : l1.length ≤ c1) (hr2 : Kd.C Kd.string w A2 l2.length l2) (hc2 : l2.length ≤ c2)
    (hl1 : l1.length < 2513169434916) (hin : ∀ e ∈ l1, e.f2.length < 17592186044415) (hl2 : l2.length < 8796093022207)
    (k k2 : Nat) (s : List S51) (d g r : List S45) (hs : lecternlaw24_sample.f = some s) (hd : lecternlaw24_sampleDoc.f = some d) (hg : search_Entries.f s d [] = some g) (hg1 : g.length = 1)
    (h1 : search_Entries.f l0 l1 l2 = some r) (h2 : lecternref24_Entries.f k l0 l1 l2 = some r) (h3 : lecternkit_Entries.f k2 r r = some true) :
    Calls Try.prog 3 #[.agg #[.slice A0 l0.length c0], .agg #[.slice A1 l1.length c1], .slice A2 l2.length c2] w fun e w' => e = .returned (.bool true) ∧ Below w.heap.size w w' := by
  obtain ⟨w2, e2⟩ : ∃ w2, w2 = (w.alloc (.cells #[.slice A0 l0.length c0] 24)).alloc (.cells #[.slice A1 l1.length c1] 27) := ⟨_, rfl⟩
  have hB2 : Below w.heap.size w w2 := by
    rw [e2]; exact (((Below.refl _ w).alloc (Nat.le_refl _) _).alloc (by simp) _)
  have hb3 : w2.cell? ⟨w.heap.size, 0, none⟩ = some (.slice A0 l0.length c0) := by
    rw [e2]; exact (blk_cell (blk_alloc (blk_new w (.cells #[.slice A0 l0.length c0] 24)) (.cells #[.slice A1 l1.length c1] 27)) 0).trans rfl
  have hb4 : w2.cell? ⟨w.heap.size + 1, 0, none⟩ = some (.slice A1 l1.length c1) := by
    have := blk_new (w.alloc (.cells #[.slice A0 l0.length c0] 24)) (.cells #[.slice A1 l1.length c1] 27)
    rw [World.size_alloc] at this
    rw [e2]; exact (blk_cell this 0).trans rfl
  have HD := Aside0.mk (lent_Doc A1 c1 l1 w2 (Kd.C_below hr1 hB2) hc1 hl1 hin)
  have HN := Aside0.mk (fun (w3 : World) (hb : Below w.heap.size w w3) => lent_Strings A2 c2 l2 w3 (Kd.C_below hr2 hb) hc2 hl2)
  have HB2 := Aside0.mk hB2
  have HB3 := Aside0.mk hb3
  have HB4 := Aside0.mk hb4
  have E2 := Aside0.mk e2
  have HR0 := Aside0.mk hr0
  have HR1 := Aside0.mk hr1
  have HR2 := Aside0.mk hr2
  have HG := Aside0.mk hg
  have HS := Aside0.mk hs
  have HSD := Aside0.mk hd
  have H1 := Aside0.mk h1
  have H2 := Aside0.mk h2
  have H3 := Aside0.mk h3
  have HIN := Aside0.mk hin
  clear hB2 hb3 hb4 e2 hr0 hr1 hr2 hg hs hd h1 h2 h3 hin
  go_enter Try.func3, Try.ntmps3
  go_wp2_with (first | (go_at_call 5; rw [← E2.out]; refine HD.out.mono ?_; rintro e w3 ⟨Ad, cd, rfl, hcd, hC, hb⟩; have HCD := Aside0.mk hC; have HBD := Aside0.mk hb; clear hC hb) | (go_at_call 6; refine (HN.out _ (HB2.out.trans (HBD.out.mono HB2.out.size))).mono ?_; rintro e w4 ⟨An, cn, rfl, hcn, hR, hb⟩; have HRN := Aside0.mk hR; have HBN := Aside0.mk hb; clear hR hb) | (go_at_call 8; refine (lecternlaw24_sample.calls s _ HS.out).mono ?_; rintro e w6 ⟨vs, rfl, hN, hb⟩; obtain ⟨As, cs, rfl⟩ := Kd.N_slice hN; have HNS := Aside0.mk (Kd.N_reads' hN); have HB6 := Aside0.mk hb; clear hN hb) | (go_at_call 9; refine (lecternlaw24_sampleDoc.calls d _ HSD.out).mono ?_; rintro e w7 ⟨vd, rfl, hN, hb⟩; obtain ⟨Asd, csd, rfl⟩ := Kd.N_slice hN; have HND := Aside0.mk (Kd.N_reads' hN); have HB7 := Aside0.mk hb; clear hN hb) | (go_at_call 7; refine (search_Entries.calls As cs s Asd csd d none 0 [] g w7 (Kd.C_below HNS.out.2.2 HB7.out) HNS.out.2.1 HND.out.2.2 HND.out.2.1 ⟨rfl, Nat.zero_le _, fun h => absurd h (Nat.lt_irrefl 0)⟩ (Nat.le_refl _) HG.out).mono ?_; rintro e w8 ⟨⟨Ag, cg, rfl, hlg, hCg⟩, hb⟩; have HB8 := Aside0.mk hb; clear hCg hb))
  have B24 : Below w2.heap.size w2 w4 := HBD.out.trans (HBN.out.mono HBD.out.size)
  have B45 : Below w4.heap.size w4 (w4.alloc (.cells #[.slice Ad l1.length cd] 27)) := (Below.refl _ w4).alloc (Nat.le_refl _) _
  have B48 : Below w4.heap.size w4 w8 := B45.trans ((HB6.out.trans ((HB7.out.trans (HB8.out.mono HB7.out.size)).mono HB6.out.size)).mono B45.size)
  have B58 : Below (w4.alloc (.cells #[.slice Ad l1.length cd] 27)).heap.size (w4.alloc (.cells #[.slice Ad l1.length cd] 27)) w8 := HB6.out.trans ((HB7.out.trans (HB8.out.mono HB7.out.size)).mono HB6.out.size)
  have B28 : Below w2.heap.size w2 w8 := B24.trans (B48.mono B24.size)
  have B08 : Below w.heap.size w w8 := HB2.out.trans (B28.mono HB2.out.size)
  have f3 := (B28.cell (World.block_lt_of_cell? w2 _ HB3.out)).trans HB3.out
  have f4 := (B28.cell (World.block_lt_of_cell? w2 _ HB4.out)).trans HB4.out
  have f7 : w8.cell? ⟨w4.heap.size, 0, none⟩ = some (.slice Ad l1.length cd) := (B58.cell (p := ⟨w4.heap.size, 0, none⟩) (blk_lt (blk_new w4 _))).trans ((blk_cell (blk_new w4 (.cells #[.slice Ad l1.length cd] 27)) 0).trans rfl)
  have C0 := Aside0.mk (Kd.C_below HR0.out B08)
  have C1 := Aside0.mk (Kd.C_below HR1.out B08)
  have C2 := Aside0.mk (Kd.C_below HR2.out B08)
  have CD := Aside0.mk (Kd.C_below HCD.out ((HBN.out.trans (B48.mono HBN.out.size))))
  have CN : Aside0 (Kd.C Kd.string w8 An (l2.length + 1) (l2 ++ [mark4])) := ⟨by
    have := Kd.C_below (Kd.R_reads' HRN.out).2.2 B48
    rwa [List.length_append] at this⟩
  have HB0 := Aside0.mk B08
  have F3 := Aside0.mk f3
  have F4 := Aside0.mk f4
  have F7 := Aside0.mk f7
  clear B24 B45 B48 B58 B28 B08 f3 f4 f7
  clear HD HN HR0 HR1 HR2 HCD HBD HRN HBN HB2 HB3 HB4 HB6 HB7 HB8 E2 HNS HND HS HSD HG
  go_region_held3 (fun W => W.cell? ⟨w.heap.size, 0, none⟩ = some (.slice A0 l0.length c0) ∧ W.cell? ⟨w.heap.size + 1, 0, none⟩ = some (.slice A1 l1.length c1) ∧ W.cell? ⟨w4.heap.size, 0, none⟩ = some (.slice Ad l1.length cd) ∧ Below w8.heap.size w8 W)
    (first | exact keep3 ((Below.refl _ _).drew) ⟨F3.out, F4.out, F7.out, Below.refl _ _⟩ | exact keep3 (by assumption) (by assumption))
    (first | (go_at_call 7; refine (search_Entries.calls A0 c0 l0 Ad cd l1 An cn l2 r _ (Kd.C_below C0.out (ofS (by assumption))) hc0 (kE_plain (Kd.C_below CD.out (ofS (by assumption)))) (by omega) (C_init (Kd.C_below CN.out (ofS (by assumption)))) (by omega) H1.out).mono ?_; rintro e w9 ⟨⟨A9, c9, rfl, hl9, hC9⟩, hb9⟩; have HC9 := Aside0.mk hC9; clear hC9) | (go_at_call 11; refine (lecternref24_Entries.calls k A0 c0 l0 A1 c1 l1 A2 c2 l2 r _ (Kd.C_below C0.out (ofS (by assumption))) hc0 (Kd.C_below C1.out (ofS (by assumption))) hc1 (Kd.C_below C2.out (ofS (by assumption))) hc2 H2.out).mono ?_; rintro e w10 ⟨vr, rfl, hN, hb10⟩; obtain ⟨A10, c10, rfl⟩ := Kd.N_slice hN; have HN10 := Aside0.mk (Kd.N_reads' hN); have HC9' := Aside0.mk (Kd.C_below HC9.out hb10); clear hN) | (go_at_call 10; refine (lecternkit_Entries.calls k2 A9 c9 r A10 c10 r true _ HC9'.out hl9 HN10.out.2.2 HN10.out.2.1 H3.out).mono ?_; rintro e w11 ⟨rfl, hb11⟩) | (go_at_call 12; refine (kept_Doc Ad cd l1 A1 c1 _ (Kd.C_below CD.out (ofS (by assumption))) hcd (Kd.C_below C1.out (ofS (by assumption))) hc1 hl1 HIN.out).mono ?_; rintro e w12 ⟨rfl, hb12⟩) | (go_at_call 13; refine (kept_Strings An cn l2 A2 c2 _ (Kd.C_below CN.out (ofS (by assumption))) hcn (Kd.C_below C2.out (ofS (by assumption))) hc2 (by omega)).mono ?_; rintro e w13 ⟨rfl, hdr⟩; have hb13 := drawn_below hdr; clear hdr))
  go_wp2
  go_ret
  exact ⟨by rfl, HB0.out.trans (Below.mono (ofS (by assumption)) HB0.out.size)⟩
end Go.Proofs.Ytonolmddjifgjaa.PEnt
