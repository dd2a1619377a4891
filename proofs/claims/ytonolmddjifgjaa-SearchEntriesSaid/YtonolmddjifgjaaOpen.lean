/- A handed row of structs opened, whatever their depth: what it reads, and how long it can be. -/
import Derived.Test.YtonolmddjifgjaaEnt
import Derived.ChangeArms
import Derived.ChangeSame
import Derived.Deep.Slices
import Derived.SizedLaws
namespace Go.Proofs.Ytonolmddjifgjaa.PEnt
open Go.RowKit Go.ChangeShapes Go.WideShapes Go.Deep Go.Proofs.YtonolmddjifgjaaW.PrintWords Go.Proofs.YtonolmddjifgjaaW.PrintLast Go.Proofs.YtonolmddjifgjaaW.PrintMore
set_option linter.unusedSimpArgs false
set_option linter.unusedVariables false

/-- Whatever is read as a value of type t is of kind d, and so small. -/
def Opens {α : Type} (P : Program) (t : TypeId) (d : Kd α) (ok : α → Prop) : Prop :=
  ∀ (H : Type) (enc : TypeId × Value → H) (w : World) (base : Nat) (spare : Nat → Bool) (held : Bool) (fuel : Nat) (cs : List Value) (x : DataW H × List MemPlace),
    DataW.trod enc P w base spare held fuel t cs = some x → (∀ n ∈ x.1.weights P t, n ≤ reachBytes) → ∃ y, d.K w y cs ∧ ok y
theorem opens_int {P : Program} {t : TypeId} {k : IntKind} (ht : P.underlying t = some (.int k)) : Opens P t (Kd.int k) (fun _ => True) := by
  intro H enc w base spare held fuel cs x h _
  obtain ⟨n, rfl, _, _⟩ := DataW.trod_int ht h
  exact ⟨n, rfl, trivial⟩
theorem opens_bool {P : Program} {t : TypeId} (ht : P.underlying t = some .bool) : Opens P t Kd.bool (fun _ => True) := by
  intro H enc w base spare held fuel cs x h _
  obtain ⟨b, rfl, _⟩ := DataW.trod_bool ht h
  exact ⟨b, rfl, trivial⟩
theorem opens_string {P : Program} {t : TypeId} (ht : P.underlying t = some .string) : Opens P t Kd.string (fun _ => True) := by
  intro H enc w base spare held fuel cs x h _
  obtain ⟨s, rfl, _, _⟩ := DataW.trod_string ht h
  exact ⟨s, rfl, trivial⟩
theorem list_of {α : Type} {p : Nat → α → Prop} : ∀ n, (∀ i, i < n → ∃ v, p i v) → ∃ vs : List α, vs.length = n ∧ ∀ (i : Nat) (v : α), vs[i]? = some v → p i v
  | 0, _ => ⟨[], rfl, fun i v h => by simp at h⟩
  | n + 1, h => by
    obtain ⟨vs, hl, hv⟩ := list_of n (fun i hi => h i (by omega))
    obtain ⟨v, hp⟩ := h n (by omega)
    refine ⟨vs ++ [v], by simp [hl], fun i u hu => ?_⟩
    by_cases hi : i < n
    · rw [List.getElem?_append_left (by omega)] at hu; exact hv i u hu
    · rw [List.getElem?_append_right (by omega)] at hu
      have : i = n := by
        have := (List.getElem?_eq_some_iff.1 hu).1
        simp at this; omega
      subst this
      rw [hl, Nat.sub_self] at hu
      cases hu
      exact hp
theorem weights_in {H : Type} {P : Program} {e : TypeId} : ∀ {ds : List (DataW H)} {d : DataW H}, d ∈ ds → ∀ n ∈ d.weights P e, n ∈ DataW.weightsAll P e ds
  | d0 :: ds, d, h, n, hn => by
    simp only [DataW.weightsAll, List.mem_append]
    rcases List.mem_cons.1 h with rfl | h
    · exact .inl hn
    · exact .inr (weights_in h n hn)
  | [], _, h, _, _ => by cases h
theorem opens_slice {α : Type} {P : Program} {t e : TypeId} {te : Nat} {d : Kd α} {ok : α → Prop} {bytes : Nat} (ht : P.underlying t = some (.slice e)) (hd : Opens P e d ok) (hsz : P.cellsOf e = d.sz) (hb : P.bytesOf e = bytes) : Opens P t (Kd.slice te d) (fun ys => ys.length * bytes ≤ reachBytes ∧ ∀ y ∈ ys, ok y) := by
  intro H enc w base spare held fuel cs x h hw
  rcases open_slice ht h with ⟨rfl, rfl⟩ | ⟨a, len, cap, m, n, D, Pl, rfl, hba, hl, hm, hmm, rfl, hx⟩
  · exact ⟨[], ⟨none, 0, rfl, Nat.le_refl _, rfl, Nat.zero_le _, fun h => absurd h (Nat.lt_irrefl 0)⟩, by simp, fun y hy => by cases hy⟩
  · have hlm : len ≤ m := by rw [hmm]; split <;> omega
    simp only [DataW.weights, ht] at hw
    obtain ⟨ys, hyl, hys⟩ := list_of (p := fun i y => ok y ∧ ∃ c, c.length = d.sz ∧ d.K w y c ∧ ∀ j u, c[j]? = some u → w.cell? (a.add (i * d.sz + j)) = some u) len (fun i hi => by
      obtain ⟨cs', h1, h2⟩ := hx i (by omega)
      obtain ⟨y, hK, hok⟩ := hd H enc w base spare held n cs' _ h2 (fun n hn => hw n (List.mem_cons_of_mem _ (List.mem_append_left _ (weights_in (List.mem_map.2 ⟨i, List.mem_range.2 hi, rfl⟩) n hn))))
      obtain ⟨_, hlen, hcell⟩ := World.cells?_some h1
      refine ⟨y, hok, cs', by rw [hlen, hsz], hK, fun j u hu => ?_⟩
      have hj : j < P.cellsOf e := by rw [← hlen]; exact (List.getElem?_eq_some_iff.1 hu).1
      have := hcell j hj
      rw [hu, hsz] at this
      rw [← this]
      congr 1
      generalize i * d.sz = q
      simp only [Addr.add]
      by_cases h1 : q = 0 <;> by_cases h2 : j = 0 <;> simp [h1, h2, Nat.add_assoc])
    refine ⟨ys, ⟨some a, cap, by rw [hyl], by omega, rfl, ?_, fun _ => ⟨a, rfl, fun j p hj => ?_⟩⟩, ?_, fun y hy => ?_⟩
    · simp only [maxLen] at hm; omega
    · obtain ⟨_, c, h1, h2, h3⟩ := hys j p hj
      exact ⟨c, h1, h2, h3⟩
    · have := hw _ List.mem_cons_self
      rw [hb] at this
      simp only [List.length_map, List.length_range] at this
      refine Nat.le_trans (Nat.mul_le_mul_right _ ?_) this
      omega
    · obtain ⟨i, hi, rfl⟩ := List.mem_iff_getElem.1 hy
      exact (hys i _ (List.getElem?_eq_getElem hi)).1
theorem opens_entry : Opens Try.prog 45 k45 (fun x => x.f2.length * 8 ≤ reachBytes) := by
  intro H enc w base spare held fuel cs x h hw
  obtain ⟨xs, n, _, rfl, hl, hlen, hf⟩ := DataW.trod_struct Try.underlying45 h
  have hl3 : cs.length = 3 := hl.trans (by kernel_rfl)
  match xs, hlen with
  | [y0, y1, y2], _ =>
  match cs, hl3 with
  | [c0, c1, c2], _ =>
  have g0 := hf 0 { name := "Field", type := 9, offset := 0, embedded := false, tag := "", pkgPath := "", byteOffset := 0 } rfl
  have g1 := hf 1 { name := "Text", type := 9, offset := 1, embedded := false, tag := "", pkgPath := "", byteOffset := 16 } rfl
  have g2 := hf 2 { name := "Numbers", type := 43, offset := 2, embedded := false, tag := "", pkgPath := "", byteOffset := 32 } rfl
  have e9 : Try.prog.cellsOf 9 = 1 := by kernel_rfl
  have e43 : Try.prog.cellsOf 43 = 1 := by kernel_rfl
  simp only [e9, e43, List.drop_zero, List.drop_succ_cons, List.take_succ_cons, List.take_zero] at g0 g1 g2
  simp only [List.map_cons, List.map_nil, DataW.weights, Try.underlying45, DataW.weightsEach, List.mem_append] at hw
  obtain ⟨s0, h0, _, _⟩ := DataW.trod_string Try.underlying9 g0
  obtain ⟨s1, h1, _, _⟩ := DataW.trod_string Try.underlying9 g1
  obtain ⟨s2, ⟨A, c, h2, hc, hC⟩, hs2, _⟩ := opens_slice (te := 2) Try.underlying43 (opens_int Try.underlying2) (by kernel_rfl) (bytes := 8) (by kernel_rfl) H enc w base spare held n [c2] y2 g2 (fun n hn => hw n (.inr (.inr (.inl hn))))
  cases h0; cases h1; cases h2
  exact ⟨⟨s0, s1, s2⟩, k45_mk w ⟨s0, s1, s2⟩ hc hC, hs2⟩
theorem opens_field : Opens Try.prog 51 k51 (fun _ => True) := by
  intro H enc w base spare held fuel cs x h hw
  obtain ⟨xs, n, _, rfl, hl, hlen, hf⟩ := DataW.trod_struct Try.underlying51 h
  have hl7 : cs.length = 7 := hl.trans (by kernel_rfl)
  match xs, hlen with
  | [y0, y1, y2, y3, y4, y5, y6], _ =>
  match cs, hl7 with
  | [c0, c1, c2, c3, c4, c5, c6], _ =>
  have g0 := hf 0 { name := "Name", type := 9, offset := 0, embedded := false, tag := "", pkgPath := "", byteOffset := 0 } rfl
  have g1 := hf 1 { name := "Kind", type := 3, offset := 1, embedded := false, tag := "", pkgPath := "", byteOffset := 16 } rfl
  have g2 := hf 2 { name := "Chain", type := 49, offset := 2, embedded := false, tag := "", pkgPath := "", byteOffset := 24 } rfl
  have g3 := hf 3 { name := "Scale", type := 3, offset := 3, embedded := false, tag := "", pkgPath := "", byteOffset := 48 } rfl
  have g4 := hf 4 { name := "Dims", type := 3, offset := 4, embedded := false, tag := "", pkgPath := "", byteOffset := 56 } rfl
  have g5 := hf 5 { name := "Many", type := 4, offset := 5, embedded := false, tag := "", pkgPath := "", byteOffset := 64 } rfl
  have g6 := hf 6 { name := "Stored", type := 4, offset := 6, embedded := false, tag := "", pkgPath := "", byteOffset := 65 } rfl
  have e9 : Try.prog.cellsOf 9 = 1 := by kernel_rfl
  have e3 : Try.prog.cellsOf 3 = 1 := by kernel_rfl
  have e4 : Try.prog.cellsOf 4 = 1 := by kernel_rfl
  have e49 : Try.prog.cellsOf 49 = 1 := by kernel_rfl
  simp only [e9, e3, e4, e49, List.drop_zero, List.drop_succ_cons, List.take_succ_cons, List.take_zero] at g0 g1 g2 g3 g4 g5 g6
  simp only [List.map_cons, List.map_nil, DataW.weights, Try.underlying51, DataW.weightsEach, List.mem_append] at hw
  obtain ⟨s0, h0, _, _⟩ := DataW.trod_string Try.underlying9 g0
  obtain ⟨s1, h1, _, _⟩ := DataW.trod_int Try.underlying3 g1
  obtain ⟨s2, ⟨A, c, h2, hc, hC⟩, hs2, _⟩ := opens_slice (te := 3) Try.underlying49 (opens_int Try.underlying3) (by kernel_rfl) (bytes := 8) (by kernel_rfl) H enc w base spare held n [c2] y2 g2 (fun n hn => hw n (.inr (.inr (.inl hn))))
  obtain ⟨s3, h3, _, _⟩ := DataW.trod_int Try.underlying3 g3
  obtain ⟨s4, h4, _, _⟩ := DataW.trod_int Try.underlying3 g4
  obtain ⟨s5, h5, _⟩ := DataW.trod_bool Try.underlying4 g5
  obtain ⟨s6, h6, _⟩ := DataW.trod_bool Try.underlying4 g6
  cases h0; cases h1; cases h2; cases h3; cases h4; cases h5; cases h6
  exact ⟨⟨s0, s1, s2, s3, s4, s5, s6⟩, k51_mk w ⟨s0, s1, s2, s3, s4, s5, s6⟩ hc hC, trivial⟩
theorem open_schema {H : Type} {enc : TypeId × Value → H} {W : World} {base b0 : Nat} {spare : Nat → Bool} {held : Bool} {r : Reach} {v : Value} {d : DataW H} {ps : List MemPlace} (hval : Value.okWide Try.prog W r b0 24 v) (h : DataW.Trod enc Try.prog W base spare held 24 v d ps) (hw : ∀ n ∈ d.weights Try.prog 24, n ≤ reachBytes) :
    ∃ A c l, v = .agg #[.slice A l.length c] ∧ l.length ≤ c ∧ Kd.C k51 W A l.length l ∧ l.length * 72 ≤ reachBytes ∧ ∀ y ∈ l, True := by
  obtain ⟨cs, rfl, hs⟩ := okWide_struct Try.underlying24 hval
  obtain ⟨fuel, hf⟩ := h
  simp only [Value.cells] at hf
  obtain ⟨y0, n, hx, hl, hy⟩ := trod_struct1 Try.underlying24 hf
  cases hx
  obtain ⟨cs⟩ := cs
  have hl1 : cs.length = 1 := hl.trans (by kernel_rfl)
  match cs, hl1 with
  | [c0], _ =>
  have e1 : Try.prog.cellsOf 22 = 1 := by kernel_rfl
  simp only [e1, List.drop_zero, List.take_succ_cons, List.take_zero] at hy
  simp only [List.map_cons, List.map_nil, DataW.weights, Try.underlying24, DataW.weightsEach, List.mem_append] at hw
  obtain ⟨l, ⟨A, c, h2, hc, hC⟩, hl2, hin⟩ := opens_slice (te := 51) Try.underlying22 opens_field (by kernel_rfl) (bytes := 72) (by kernel_rfl) H enc W base spare held n [c0] y0 hy (fun n hn => hw n (.inl hn))
  cases h2
  exact ⟨A, c, l, rfl, hc, hC, hl2, hin⟩
theorem open_doc {H : Type} {enc : TypeId × Value → H} {W : World} {base b0 : Nat} {spare : Nat → Bool} {held : Bool} {r : Reach} {v : Value} {d : DataW H} {ps : List MemPlace} (hval : Value.okWide Try.prog W r b0 27 v) (h : DataW.Trod enc Try.prog W base spare held 27 v d ps) (hw : ∀ n ∈ d.weights Try.prog 27, n ≤ reachBytes) :
    ∃ A c l, v = .agg #[.slice A l.length c] ∧ l.length ≤ c ∧ Kd.C k45 W A l.length l ∧ l.length * 56 ≤ reachBytes ∧ ∀ y ∈ l, y.f2.length * 8 ≤ reachBytes := by
  obtain ⟨cs, rfl, hs⟩ := okWide_struct Try.underlying27 hval
  obtain ⟨fuel, hf⟩ := h
  simp only [Value.cells] at hf
  obtain ⟨y0, n, hx, hl, hy⟩ := trod_struct1 Try.underlying27 hf
  cases hx
  obtain ⟨cs⟩ := cs
  have hl1 : cs.length = 1 := hl.trans (by kernel_rfl)
  match cs, hl1 with
  | [c0], _ =>
  have e1 : Try.prog.cellsOf 25 = 1 := by kernel_rfl
  simp only [e1, List.drop_zero, List.take_succ_cons, List.take_zero] at hy
  simp only [List.map_cons, List.map_nil, DataW.weights, Try.underlying27, DataW.weightsEach, List.mem_append] at hw
  obtain ⟨l, ⟨A, c, h2, hc, hC⟩, hl2, hin⟩ := opens_slice (te := 45) Try.underlying25 opens_entry (by kernel_rfl) (bytes := 56) (by kernel_rfl) H enc W base spare held n [c0] y0 hy (fun n hn => hw n (.inl hn))
  cases h2
  exact ⟨A, c, l, rfl, hc, hC, hl2, hin⟩
theorem open_names {H : Type} {enc : TypeId × Value → H} {W : World} {base b0 : Nat} {spare : Nat → Bool} {held : Bool} {r : Reach} {v : Value} {d : DataW H} {ps : List MemPlace} (hval : Value.okWide Try.prog W r b0 28 v) (h : DataW.Trod enc Try.prog W base spare held 28 v d ps) (hw : ∀ n ∈ d.weights Try.prog 28, n ≤ reachBytes) :
    ∃ A c l, v = .slice A l.length c ∧ l.length ≤ c ∧ Kd.C Kd.string W A l.length l ∧ l.length * 16 ≤ reachBytes := by
  obtain ⟨A0, n0, c0, rfl⟩ := okWide_slice Try.underlying28 hval
  obtain ⟨fuel, hf⟩ := h
  simp only [Value.cells] at hf
  obtain ⟨l, ⟨A, c, h2, hc, hC⟩, hl2, hin⟩ := opens_slice (te := 9) Try.underlying28 (opens_string Try.underlying9) (by kernel_rfl) (bytes := 16) (by kernel_rfl) H enc W base spare held fuel _ (d, ps) hf hw
  cases h2
  exact ⟨_, _, l, rfl, hc, hC, hl2⟩
end Go.Proofs.Ytonolmddjifgjaa.PEnt
