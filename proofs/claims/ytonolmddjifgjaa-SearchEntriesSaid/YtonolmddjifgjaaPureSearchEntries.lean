/- Which entries are for highlighting, whatever the schema, the document and the names. This text: the plain law. -/
import Derived.Test.YtonolmddjifgjaaEnt
namespace Go.Proofs.Ytonolmddjifgjaa.PEnt
open Go.RowKit Go.Proofs.YtonolmddjifgjaaW.PrintWords Go.Proofs.YtonolmddjifgjaaW.PrintLast Go.Proofs.YtonolmddjifgjaaW.PrintMore
set_option linter.unusedSimpArgs false
set_option linter.unusedVariables false

theorem rd51 {l : List S51} {i : Nat} (h : i < l.length) : rd_T51 l (i : Int) = l[i] := by
  unfold rd_T51; rw [Int.toNat_natCast, List.getD_eq_getElem?_getD, List.getElem?_eq_getElem h]; rfl
theorem rd45 {l : List S45} {i : Nat} (h : i < l.length) : rd_T45 l (i : Int) = l[i] := by
  unfold rd_T45; rw [Int.toNat_natCast, List.getD_eq_getElem?_getD, List.getElem?_eq_getElem h]; rfl
theorem find_loop (l : List S51) (name : ByteArray) (hl : l.length < 9223372036854775807) (d : Nat) : ∀ (k i : Nat), i + d = l.length → d < k →
    lecternref08_Find.l0 k name (i : Int) l = some (if (l.drop i).findIdx (named51 name) < (l.drop i).length then ((i + (l.drop i).findIdx (named51 name) : Nat) : Int) else -1) := by
  induction d with
  | zero =>
    intro k i h1 h2
    obtain ⟨k, rfl⟩ : ∃ m, k = m + 1 := ⟨k - 1, by omega⟩
    simp only [lecternref08_Find.l0]
    rw [if_neg (by omega), List.drop_of_length_le (by omega)]; simp
  | succ d ih =>
    intro k i h1 h2
    obtain ⟨k, rfl⟩ : ∃ m, k = m + 1 := ⟨k - 1, by omega⟩
    have hi : i < l.length := by omega
    simp only [lecternref08_Find.l0]
    rw [if_pos (by omega), if_pos (by omega), rd51 hi, List.drop_eq_getElem_cons hi]
    by_cases c : (l[i]).f0.toList = name.toList
    · have : named51 name l[i] = true := by unfold named51; exact beq_iff_eq.2 c
      rw [if_pos c]
      simp only [List.findIdx_cons, this, cond_true, List.length_cons]
      rw [if_pos (Nat.succ_pos _)]; rfl
    · have : named51 name l[i] = false := by unfold named51; exact beq_eq_false_iff_ne.2 c
      rw [if_neg c, show wrap64 ((i : Int) + 1) = ((i + 1 : Nat) : Int) from by unfold wrap64; omega, ih k (i + 1) (by omega) (by omega)]
      simp only [List.findIdx_cons, this, cond_false, List.length_cons]
      apply congrArg some
      by_cases c2 : (l.drop (i + 1)).findIdx (named51 name) < (l.drop (i + 1)).length
      · rw [if_pos c2, if_pos (by omega)]; omega
      · rw [if_neg c2, if_neg (by omega)]
theorem find_is (l : List S51) (name : ByteArray) (hl : l.length < 9223372036854775807) (k : Nat) (hk : l.length < k) : lecternref08_Find.f k l name = some (firstAt (named51 name) l) := by
  unfold lecternref08_Find.f
  have := find_loop l name hl l.length k 0 (by omega) hk
  rw [show ((0 : Nat) : Int) = 0 from rfl] at this
  rw [this, List.drop_zero]
  unfold firstAt
  simp only [Nat.zero_add]
theorem stored_loop (s : List S51) (l : List S45) (hs : s.length < 9223372036854775807) (hl : l.length < 2513169434916) (hin : ∀ e ∈ l, e.f2.length < 17592186044415) (d : Nat) : ∀ (k i : Nat) (acc : List S45), i + d = l.length → d + s.length < k → acc.length ≤ i →
    lecternref08_Stored.l0 k acc (i : Int) s l = some (acc ++ (l.drop i).filter (fun e => storedIn s e.f0)) := by
  induction d with
  | zero =>
    intro k i acc h1 h2 h3
    obtain ⟨k, rfl⟩ : ∃ m, k = m + 1 := ⟨k - 1, by omega⟩
    simp only [lecternref08_Stored.l0]
    rw [if_neg (by omega), List.drop_of_length_le (by omega)]; simp
  | succ d ih =>
    intro k i acc h1 h2 h3
    obtain ⟨k, rfl⟩ : ∃ m, k = m + 1 := ⟨k - 1, by omega⟩
    have hi : i < l.length := by omega
    have hlen := hin _ (List.getElem_mem hi)
    have hw : wrap64 ((i : Int) + 1) = ((i + 1 : Nat) : Int) := by unfold wrap64; omega
    simp only [lecternref08_Stored.l0]
    rw [if_pos (by omega), if_pos (by omega), rd45 hi, find_is s _ hs k (by omega), Option.bind_some, hw]
    rw [List.drop_eq_getElem_cons hi, List.filter_cons]
    have hlt := firstAt_lt (named51 (l[i]).f0) s
    unfold storedIn
    generalize firstAt (named51 (l[i]).f0) s = t at hlt
    by_cases c : t ≥ 0
    · have e1 : mx 0 t = t := by unfold mx; split <;> omega
      rw [if_pos c, if_pos c, if_pos hlt, e1, decide_eq_true c, Bool.true_and]
      by_cases c2 : (rd_T51 s t).f6 = true
      · rw [if_pos c2, if_pos c2, Option.bind_some, if_pos (by simp only [List.length_nil]; omega), if_pos (by omega), List.nil_append]
        rw [ih k (i + 1) _ (by omega) (by omega) (by rw [List.length_append, List.length_singleton]; omega)]
        unfold storedIn
        rw [List.append_assoc]; rfl
      · rw [if_neg c2, if_neg c2]
        rw [ih k (i + 1) _ (by omega) (by omega) (by omega)]
        unfold storedIn; rfl
    · rw [if_neg c, decide_eq_false c, Bool.false_and, if_neg (by decide)]
      rw [ih k (i + 1) _ (by omega) (by omega) (by omega)]
      unfold storedIn; rfl
theorem stored_is (s : List S51) (l : List S45) (hs : s.length < 9223372036854775807) (hl : l.length < 2513169434916) (hin : ∀ e ∈ l, e.f2.length < 17592186044415) (k : Nat) (hk : l.length + s.length < k) : lecternref08_Stored.f k s l = some (l.filter (fun e => storedIn s e.f0)) := by
  unfold lecternref08_Stored.f
  have := stored_loop s l hs hl hin l.length k 0 [] (by omega) hk (Nat.le_refl _)
  rw [show ((0 : Nat) : Int) = 0 from rfl] at this
  rw [this, List.drop_zero, List.nil_append]
theorem inner (fl : List ByteArray) (hf : fl.length < 9223372036854775807) (acc rows : List S45) (i : Nat) (hi : i < rows.length) (hr : rows.length < 9223372036854775807) (ha : acc.length < 2513169434916) (d : Nat) : ∀ (k j : Nat) (b : Bool), j + d = fl.length →
    lecternref24_Entries.l1 (k + d + 1) fl acc rows (i : Int) b (j : Int) = (if (b || (fl.drop j).any (fun s => (s.toList == (rows[i]).f0.toList))) = true then lecternref24_Entries.l0 k fl (acc ++ [rows[i]]) rows ((i + 1 : Nat) : Int) else lecternref24_Entries.l0 k fl acc rows ((i + 1 : Nat) : Int)) := by
  have hw : wrap64 ((i : Int) + 1) = ((i + 1 : Nat) : Int) := by unfold wrap64; omega
  induction d with
  | zero =>
    intro k j b h1
    simp only [lecternref24_Entries.l1]
    rw [if_neg (by omega), List.drop_of_length_le (by omega), rd45 hi, hw, if_pos (show (0 : Int) ≤ (i : Int) by omega), if_pos (show (i : Int) < (rows.length : Int) by omega), if_pos ha]
    simp only [List.any_nil, Bool.or_false]
  | succ d ih =>
    intro k j b h1
    have hj : j < fl.length := by omega
    have hwj : wrap64 ((j : Int) + 1) = ((j + 1 : Nat) : Int) := by unfold wrap64; omega
    rw [show k + (d + 1) + 1 = (k + d + 1) + 1 from by omega]
    rw [lecternref24_Entries.l1]
    rw [if_pos (by omega), hwj]
    cases b with
    | true =>
      rw [if_pos rfl, ih k (j + 1) true (by omega)]
      simp only [Bool.true_or]
    | false =>
      rw [if_neg (by decide), if_pos (by omega), if_pos (by omega), if_pos (by omega), rd45 hi, show rdOf ByteArray.empty fl (j : Int) = fl[j] from by unfold rdOf; rw [Int.toNat_natCast, List.getD_eq_getElem?_getD, List.getElem?_eq_getElem hj]; rfl]
      rw [ih k (j + 1) _ (by omega), List.drop_eq_getElem_cons hj, List.any_cons, Bool.false_or]
theorem keeps_is (fl : List ByteArray) (x : S45) : (((fl.length : Int) == 0) || fl.any (fun s => (s.toList == x.f0.toList))) = !drops fl x.f0 := by
  unfold drops hasName
  have e1 : fl.any (fun s => (s.toList == x.f0.toList)) = fl.any (fun s => (x.f0.toList == s.toList)) := by
    congr 1; funext s; exact Bool.beq_comm
  rw [e1]
  cases fl with
  | nil => rfl
  | cons a t =>
    have h1 : ((((a :: t).length : Nat) : Int) == 0) = false := by
      apply beq_eq_false_iff_ne.2; simp only [List.length_cons]; omega
    have h2 : decide (0 < (a :: t).length) = true := decide_eq_true (Nat.succ_pos _)
    rw [h1, h2, Bool.false_or, Bool.true_and, Bool.not_not]
theorem outer (fl : List ByteArray) (hf : fl.length < 9223372036854775807) (rows : List S45) (hr : rows.length < 2513169434916) (d : Nat) : ∀ (k i : Nat) (acc : List S45), i + d = rows.length → (d + 1) * (fl.length + 3) ≤ k → acc.length ≤ i →
    lecternref24_Entries.l0 k fl acc rows (i : Int) = some (acc ++ (rows.drop i).filter (fun x => !drops fl x.f0)) := by
  induction d with
  | zero =>
    intro k i acc h1 h2 h3
    obtain ⟨k, rfl⟩ : ∃ m, k = m + 1 := ⟨k - 1, by omega⟩
    simp only [lecternref24_Entries.l0]
    rw [if_neg (by omega), List.drop_of_length_le (by omega)]; simp
  | succ d ih =>
    intro k i acc h1 h2 h3
    rw [Nat.succ_mul] at h2
    have hi : i < rows.length := by omega
    obtain ⟨k, rfl⟩ : ∃ m, k = (m + fl.length + 1) + 1 := ⟨k - (fl.length + 2), by omega⟩
    rw [lecternref24_Entries.l0]
    rw [if_pos (by omega)]
    have hin := inner fl hf acc rows i hi (by omega) (by omega) fl.length k 0 ((fl.length : Int) == 0) (by omega)
    rw [show ((0 : Nat) : Int) = 0 from rfl, List.drop_zero, keeps_is] at hin
    rw [hin, List.drop_eq_getElem_cons hi, List.filter_cons]
    cases hq : !drops fl (rows[i]).f0
    · rw [if_neg (by decide), if_neg (by decide)]
      exact ih k (i + 1) acc (by omega) (by omega) (by omega)
    · rw [if_pos rfl, if_pos rfl, ih k (i + 1) _ (by omega) (by omega) (by rw [List.length_append, List.length_singleton]; omega), List.append_assoc]
      rfl
theorem entries_said (s : List S51) (l : List S45) (fl : List ByteArray) (hs : s.length < 9223372036854775807) (hl : l.length < 2513169434916) (hin : ∀ e ∈ l, e.f2.length < 17592186044415) (hf : fl.length < 8796093022207) :
    ∃ k k2 r, search_Entries.f s l fl = some r ∧ lecternref24_Entries.f k s l fl = some r ∧ lecternkit_Entries.f k2 r r = some true := by
  have hall : l.all (fun e => decide (e.f2.length < 17592186044416)) = true := List.all_eq_true.2 (fun e he => decide_eq_true (by have := hin e he; omega))
  have hq : (l.filter (fun e => storedIn s e.f0)).length ≤ l.length := List.length_filter_le _ _
  have hq2 : ((l.filter (fun e => storedIn s e.f0)).filter (fun x => !drops fl x.f0)).length ≤ (l.filter (fun e => storedIn s e.f0)).length := List.length_filter_le _ _
  refine ⟨l.length + s.length + 1 + ((l.filter (fun e => storedIn s e.f0)).length + 1) * (fl.length + 3), _, (l.filter (fun e => storedIn s e.f0)).filter (fun x => !drops fl x.f0), ?_, ?_, entries_self _ 17592186044415 (fun e he => hin e (List.mem_filter.1 (List.mem_filter.1 he).1).1) (by omega) (by omega)⟩
  · unfold search_Entries.f schema_Stored.f
    rw [if_pos (by omega), if_pos hl, if_pos hall]; rfl
  · unfold lecternref24_Entries.f
    rw [stored_is s l hs hl hin _ (by omega), Option.bind_some]
    have := outer fl (by omega) (l.filter (fun e => storedIn s e.f0)) (by omega) (l.filter (fun e => storedIn s e.f0)).length (l.length + s.length + 1 + ((l.filter (fun e => storedIn s e.f0)).length + 1) * (fl.length + 3)) 0 [] (by omega) (by omega) (Nat.le_refl _)
    rw [show ((0 : Nat) : Int) = 0 from rfl] at this
    rw [this, List.drop_zero, List.nil_append]
theorem sample_said : ∃ s d g, lecternlaw24_sample.f = some s ∧ lecternlaw24_sampleDoc.f = some d ∧ search_Entries.f s d [] = some g ∧ g.length = 1 := ⟨_, _, _, rfl, rfl, rfl, by decide +kernel⟩
end Go.Proofs.Ytonolmddjifgjaa.PEnt
