/- ShListP: entries in the order of their places. No program in sight. -/
import Derived.Test.YtnmnbogdjlkmgaaShelf4
namespace Go.Proofs.Ytnmnbogdjlkmgaa
set_option linter.unusedSimpArgs false
set_option linter.unusedVariables false
open Go.RowKit
set_option maxRecDepth 100000
set_option maxHeartbeats 2000000

theorem la_at {g : Shf} {W : List BlP} (hI : ShI g W) (hnd : (g.la.map (·.1)).Nodup) {p : Key × Ent} (hp : p ∈ g.la) : mlk g.la p.1 = some p.2 ∧ p.2.blob.p ∈ W ∧ p.2.blob.p.key = p.1 := by
  obtain ⟨j, hj⟩ := List.getElem?_of_mem hp
  have h1 : mlk g.la p.1 = some p.2 := lookup_of_get hnd hj
  have h2 := hI.all p.1
  rw [h1] at h2
  have h3 := byKey_mem (h2.symm : byKey W p.1 = some p.2.blob.p)
  exact ⟨h1, h3⟩
theorem la_ok {g : Shf} {W : List BlP} (hI : ShI g W) (hnd : (g.la.map (·.1)).Nodup) : ∃ pl : Key → Int, W.Pairwise (fun x y => pl x.key < pl y.key) ∧ (g.la.map (·.2.blob.p)).Perm W ∧ ∀ p ∈ g.la, p.2.place = pl p.2.blob.p.key ∧ 0 ≤ p.2.place ∧ p.2.place ≤ 100000 := by
  obtain ⟨pl, h1, h2, h3⟩ := hI.ord
  have hnx := hI.next
  refine ⟨pl, h2, ?_, fun p hp => ?_⟩
  · have hk : (g.la.map (·.2.blob.p)).map (·.key) = g.la.map (·.1) := by
      rw [List.map_map]
      exact List.map_congr_left fun p hp => (la_at hI hnd hp).2.2
    have hn1 : (g.la.map (·.2.blob.p)).Nodup := List.Pairwise.of_map (S := fun a b : Key => a ≠ b) (fun y : BlP => y.key) (fun a b h e => h (by rw [e])) (by rw [hk]; exact hnd)
    have hn2 : W.Nodup := List.Pairwise.of_map (S := fun a b : Key => a ≠ b) (fun y : BlP => y.key) (fun a b h e => h (by rw [e])) hI.nodup
    refine (List.perm_ext_iff_of_nodup hn1 hn2).2 fun y => ⟨fun hy => ?_, fun hy => ?_⟩
    · obtain ⟨p, hp, rfl⟩ := List.mem_map.1 hy
      exact (la_at hI hnd hp).2.1
    · have h4 := hI.all y.key
      rw [byKey_some hI.nodup hy rfl] at h4
      cases hl : mlk g.la y.key with
      | none => rw [hl] at h4; cases h4
      | some en =>
        rw [hl] at h4
        exact List.mem_map.2 ⟨_, hg_lookup (by unfold mlk at hl; exact hl), Option.some.inj h4⟩
  · obtain ⟨h4, h5, h6⟩ := la_at hI hnd hp
    have h7 := h1 _ _ h4
    have h8 := h3 _ h5
    rw [h6] at h8 ⊢
    exact ⟨h7, by omega, by omega⟩
theorem pl_inj {pl : Key → Int} {W : List BlP} (h : W.Pairwise fun x y => pl x.key < pl y.key) {a b : BlP} (ha : a ∈ W) (hb : b ∈ W) (he : pl a.key = pl b.key) : a = b := by
  obtain ⟨i, hi⟩ := List.getElem?_of_mem ha
  obtain ⟨j, hj⟩ := List.getElem?_of_mem hb
  obtain ⟨hi1, hi2⟩ := List.getElem?_eq_some_iff.1 hi
  obtain ⟨hj1, hj2⟩ := List.getElem?_eq_some_iff.1 hj
  rw [List.pairwise_iff_getElem] at h
  rcases Nat.lt_trichotomy i j with h1 | h1 | h1
  · have := h i j hi1 hj1 h1
    rw [hi2, hj2] at this
    omega
  · subst h1
    rw [hi] at hj
    exact Option.some.inj hj
  · have := h j i hj1 hi1 h1
    rw [hi2, hj2] at this
    omega
theorem in_order {pl : Key → Int} {W l : List BlP} (h : W.Pairwise fun x y => pl x.key < pl y.key) (hp : l.Perm W) (hs : l.Pairwise fun x y => pl x.key ≤ pl y.key) : l = W :=
  List.Perm.eq_of_pairwise (le := fun x y => pl x.key ≤ pl y.key) (fun a b ha hb h1 h2 => pl_inj h (hp.mem_iff.1 ha) hb (Int.le_antisymm h1 h2)) hs (h.imp fun hh => Int.le_of_lt hh) hp
/-- all places met: a permutation -/
theorem met_all {κ α : Type} {l : List κ} {done : List Nat} (hn : done.Nodup) (hd : ∀ i ∈ done, i < l.length) (hall : ∀ i, i < l.length → i ∈ done) (f : κ → α) : (done.map fun i => (l[i]?).map f).Perm (l.map fun x => some (f x)) := by
  have h1 : done.Perm (List.range l.length) := (List.perm_ext_iff_of_nodup hn List.nodup_range).2 fun i => ⟨fun h => List.mem_range.2 (hd i h), fun h => hall i (List.mem_range.1 h)⟩
  refine (h1.map _).trans (List.Perm.of_eq ?_)
  apply List.ext_getElem?
  intro i
  simp only [List.getElem?_map]
  rcases Nat.lt_or_ge i l.length with h | h
  · rw [List.getElem?_range h, Option.map_some, List.getElem?_eq_getElem h]
    rfl
  · rw [List.getElem?_eq_none (by simp; exact h), List.getElem?_eq_none h]
    rfl
theorem perm_some {α : Type} {l l' : List α} (h : (l.map some).Perm (l'.map some)) : l.Perm l' := by
  have h1 := h.filterMap id
  simpa [List.filterMap_map] using h1
end Go.Proofs.Ytnmnbogdjlkmgaa
