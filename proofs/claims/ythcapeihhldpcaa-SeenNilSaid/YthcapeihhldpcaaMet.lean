/- Met: all places met are a permutation. No program in sight. -/
import Derived.Test.YthcapeihhldpcaaSep
namespace Go.Proofs.Ythcapeihhldpcaa
set_option linter.unusedSimpArgs false
set_option linter.unusedVariables false
open Go.RowKit
set_option maxRecDepth 100000
set_option maxHeartbeats 2000000

/-- all places met: a permutation -/
theorem met_all {κ α : Type} {l : List κ} {done : List Nat} (hn : done.Nodup) (hd : ∀ i ∈ done, i < l.length) (hall : ∀ i, i < l.length → i ∈ done) (f : κ → α) : (done.map fun i => (l[i]?).map f).Perm (l.map fun x => some (f x)) := by
  have h1 : done.Perm (List.range l.length) := (List.perm_ext_iff_of_nodup hn List.nodup_range).2 fun i => ⟨fun h => List.mem_range.2 (hd i h), fun h => hall i (List.mem_range.1 h)⟩
  refine (h1.map _).trans (List.Perm.of_eq ?_)
  apply List.ext_getElem?
  intro i
  simp only [List.getElem?_map]
  rcases Nat.lt_or_ge i l.length with h | h
  · rw [List.getElem?_range h, Option.map_some, List.getElem?_eq_getElem h]
    rfl
  · rw [List.getElem?_eq_none (by simp; exact h), List.getElem?_eq_none h]
    rfl
theorem perm_some {α : Type} {l l' : List α} (h : (l.map some).Perm (l'.map some)) : l.Perm l' := by
  have h1 := h.filterMap id
  simpa [List.filterMap_map] using h1
theorem met_len {done : List Nat} {i n : Nat} (hn : done.Nodup) (hd : ∀ j ∈ done, j < n) (hi : i < n) (hni : i ∉ done) : done.length < n := by
  have h1 : (done ++ [i]).Nodup := List.nodup_append.2 ⟨hn, by simp, fun a ha b hb e => by simp at hb; subst hb; subst e; exact hni ha⟩
  have h2 : ∀ j ∈ done ++ [i], j ∈ List.range n := fun j hj => by
    rcases List.mem_append.1 hj with hj | hj
    · exact List.mem_range.2 (hd j hj)
    · simp at hj
      subst hj
      exact List.mem_range.2 hi
  have h3 := h1.length_le_of_subset h2
  rw [List.length_append, List.length_range] at h3
  exact h3
theorem met_snoc {done : List Nat} {i n : Nat} (hn : done.Nodup) (hd : ∀ j ∈ done, j < n) (hi : i < n) (hni : i ∉ done) : (done ++ [i]).Nodup ∧ ∀ j ∈ done ++ [i], j < n := by
  refine ⟨List.nodup_append.2 ⟨hn, by simp, fun a ha b hb e => by simp at hb; subst hb; subst e; exact hni ha⟩, fun j hj => ?_⟩
  rcases List.mem_append.1 hj with hj | hj
  · exact hd j hj
  · simp at hj
    subst hj
    exact hi
theorem filterMap_if {κ α : Type} (q : κ → Bool) (f : κ → α) : ∀ l : List κ, (l.filterMap fun x => if q x = true then some (f x) else none) = (l.filter q).map f
  | [] => rfl
  | x :: l => by
    rw [List.filterMap_cons, filterMap_if q f l]
    cases h : q x with
    | true => rw [List.filter_cons_of_pos h]; rfl
    | false => rw [List.filter_cons_of_neg (by rw [h]; simp)]; rfl
theorem range_filterMap {κ α : Type} (h : κ → Option α) : ∀ l : List κ, ((List.range l.length).filterMap fun i => (l[i]?).bind h) = l.filterMap h
  | [] => rfl
  | x :: l => by
    rw [List.length_cons, List.range_succ_eq_map, List.filterMap_cons, List.filterMap_map, List.filterMap_cons]
    have ih := range_filterMap h l
    have e : (((fun i => ((x :: l)[i]?).bind h) ∘ Nat.succ) : Nat → Option α) = fun i => (l[i]?).bind h := by funext i; rfl
    rw [e, ih]
    rfl
/-- all met of those for which something holds -/
theorem met_filter {κ α : Type} {l : List κ} {done : List Nat} (hn : done.Nodup) (hd : ∀ i ∈ done, i < l.length) (hall : ∀ i, i < l.length → i ∈ done) (q : κ → Bool) (f : κ → α) : (done.filterMap fun i => (l[i]?).bind fun x => if q x = true then some (f x) else none).Perm ((l.filter q).map f) := by
  have h1 : done.Perm (List.range l.length) := (List.perm_ext_iff_of_nodup hn List.nodup_range).2 fun i => ⟨fun h => List.mem_range.2 (hd i h), fun h => hall i (List.mem_range.1 h)⟩
  refine (h1.filterMap _).trans (List.Perm.of_eq ?_)
  rw [range_filterMap (fun x => if q x = true then some (f x) else none) l, filterMap_if]
end Go.Proofs.Ythcapeihhldpcaa
