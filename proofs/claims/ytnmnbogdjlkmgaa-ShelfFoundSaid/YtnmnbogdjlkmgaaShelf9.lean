/- Shelf9: ShelfFound in plain words. No program in sight. -/
import Derived.Test.YtnmnbogdjlkmgaaShelf8
namespace Go.Proofs.Ytnmnbogdjlkmgaa
set_option linter.unusedSimpArgs false
set_option linter.unusedVariables false
open Go.RowKit
set_option maxRecDepth 100000
set_option maxHeartbeats 2000000

theorem count_set_t : ∀ {l : List Bool} {i : Nat}, l[i]? = some false → (l.set i true).count true = l.count true + 1
  | [], i, h => by simp at h
  | b :: l, 0, h => by
    simp at h
    subst h
    simp
  | b :: l, i + 1, h => by
    have ih := count_set_t (l := l) (i := i) (by simpa using h)
    rw [List.set_cons_succ, List.count_cons, List.count_cons, ih]
    omega
theorem count_set_f : ∀ {l : List Bool} {i : Nat}, l[i]? = some true → (l.set i false).count true + 1 = l.count true
  | [], i, h => by simp at h
  | b :: l, 0, h => by
    simp at h
    subst h
    simp
  | b :: l, i + 1, h => by
    have ih := count_set_f (l := l) (i := i) (by simpa using h)
    rw [List.set_cons_succ, List.count_cons, List.count_cons]
    omega
/-- which of the blobs are there -/
structure Keep (L : List Blob) (W : List BlP) (th : List Bool) : Prop where
  len : th.length = L.length
  nodup : (W.map (·.key)).Nodup
  is_ : ∀ (i : Nat) (x : Blob), L[i]? = some x → th[i]? = some true → x.p ∈ W
  of_ : ∀ y ∈ W, ∃ (i : Nat) (x : Blob), L[i]? = some x ∧ th[i]? = some true ∧ x.p = y
  one : ∀ (i j : Nat) (x y : Blob), L[i]? = some x → L[j]? = some y → th[i]? = some true → th[j]? = some true → x.key = y.key → i = j
  count : W.length = th.count true
theorem keep_0 (L : List Blob) : Keep L [] (List.replicate L.length false) where
  len := by simp
  nodup := by simp
  is_ i x _ h := by
    rw [List.getElem?_replicate] at h
    split at h <;> cases h
  of_ y hy := by cases hy
  one i j x y _ _ h := by
    rw [List.getElem?_replicate] at h
    split at h <;> cases h
  count := by rw [List.count_replicate]; rfl
theorem Keep.add {L : List Blob} {W : List BlP} {th : List Bool} (h : Keep L W th) {i : Nat} {x : Blob} (hx : L[i]? = some x) (ht : th[i]? = some false) (hk : x.key ∉ W.map (·.key)) : Keep L (W ++ [x.p]) (th.set i true) where
  len := by rw [List.length_set]; exact h.len
  nodup := by
    rw [List.map_append, List.nodup_append]
    refine ⟨h.nodup, by simp, fun a ha b hb => ?_⟩
    simp at hb
    subst hb
    exact fun e => hk (by have h1 : a = x.key := e; rw [← h1]; exact ha)
  is_ j y hy hj := by
    by_cases hij : i = j
    · subst hij
      rw [hx] at hy
      cases hy
      simp
    · rw [List.getElem?_set_ne hij] at hj
      exact List.mem_append_left _ (h.is_ j y hy hj)
  of_ y hy := by
    have hil : i < th.length := (List.getElem?_eq_some_iff.1 ht).1
    rcases List.mem_append.1 hy with hy | hy
    · obtain ⟨j, z, h1, h2, h3⟩ := h.of_ y hy
      have hij : i ≠ j := fun e => by subst e; rw [ht] at h2; cases h2
      exact ⟨j, z, h1, by rw [List.getElem?_set_ne hij]; exact h2, h3⟩
    · simp at hy
      subst hy
      exact ⟨i, x, hx, by rw [List.getElem?_set_self hil], rfl⟩
  one j j' y y' hy hy' hj hj' he := by
    have key : ∀ (j : Nat) (y : Blob), L[j]? = some y → th[j]? = some true → y.key ∈ W.map (·.key) := fun j y h1 h2 => List.mem_map.2 ⟨y.p, h.is_ j y h1 h2, rfl⟩
    by_cases h1 : i = j
    · by_cases h2 : i = j'
      · omega
      · subst h1
        rw [hx] at hy
        cases hy
        rw [List.getElem?_set_ne h2] at hj'
        exact absurd (he ▸ key j' y' hy' hj') hk
    · by_cases h2 : i = j'
      · subst h2
        rw [hx] at hy'
        cases hy'
        rw [List.getElem?_set_ne h1] at hj
        exact absurd (he ▸ key j y hy hj) hk
      · rw [List.getElem?_set_ne h1] at hj
        rw [List.getElem?_set_ne h2] at hj'
        exact h.one j j' y y' hy hy' hj hj' he
  count := by rw [List.length_append, count_set_t ht, h.count]; rfl
theorem hold_some {L : List Blob} {th : List Bool} {k : Key} {i : Nat} (h : holdI L th k = some i) : th[i]? = some true ∧ ∃ x, L[i]? = some x ∧ x.key = k := by
  have h1 := List.find?_some h
  unfold holds_ at h1
  simp only [Bool.and_eq_true, decide_eq_true_eq] at h1
  obtain ⟨h2, h3⟩ := h1
  constructor
  · cases ht : th[i]? with
    | none => rw [ht] at h2; simp at h2
    | some b => rw [ht] at h2; simp at h2; rw [h2]
  · cases hl : L[i]? with
    | none => rw [hl] at h3; cases h3
    | some x => rw [hl] at h3; exact ⟨x, rfl, Option.some.inj h3⟩
theorem hold_has {L : List Blob} {th : List Bool} {k : Key} {i : Nat} {x : Blob} (hx : L[i]? = some x) (ht : th[i]? = some true) (hk : x.key = k) : (holdI L th k).isSome = true := by
  unfold holdI
  rw [List.find?_isSome]
  refine ⟨i, List.mem_range.2 (List.getElem?_eq_some_iff.1 hx).1, ?_⟩
  unfold holds_
  rw [ht, hx]
  simp [hk]
/-- a key is held just if its blob is there -/
theorem Keep.held {L : List Blob} {W : List BlP} {th : List Bool} (h : Keep L W th) (k : Key) : (byKey W k).isSome = (holdI L th k).isSome := by
  cases hb : byKey W k with
  | some y =>
    obtain ⟨hy, hk⟩ := byKey_mem hb
    obtain ⟨i, x, h1, h2, h3⟩ := h.of_ y hy
    rw [hold_has h1 h2 (by rw [← hk, ← h3]; rfl)]
    rfl
  | none =>
    cases hh : holdI L th k with
    | none => rfl
    | some i =>
      obtain ⟨h1, x, h2, h3⟩ := hold_some hh
      rw [byKey_some h.nodup (h.is_ i x h2 h1) h3] at hb
      cases hb
theorem Keep.drop {L : List Blob} {W : List BlP} {th : List Bool} (h : Keep L W th) {k : Key} {i : Nat} (hi : holdI L th k = some i) : Keep L (dropK W k) (th.set i false) := by
  obtain ⟨h1, x, h2, h3⟩ := hold_some hi
  have hil : i < th.length := (List.getElem?_eq_some_iff.1 h1).1
  have old : ∀ j, (th.set i false)[j]? = some true → j ≠ i ∧ th[j]? = some true := fun j hj => by
    by_cases hij : i = j
    · subst hij
      rw [List.getElem?_set_self hil] at hj
      cases hj
    · rw [List.getElem?_set_ne hij] at hj
      exact ⟨fun e => hij e.symm, hj⟩
  refine ⟨by rw [List.length_set]; exact h.len, h.nodup.sublist (List.filter_sublist.map _), fun j y hy hj => ?_, fun y hy => ?_, fun j j' y y' hy hy' hj hj' he => ?_, ?_⟩
  · obtain ⟨hne, hj⟩ := old j hj
    refine List.mem_filter.2 ⟨h.is_ j y hy hj, ?_⟩
    have : y.key ≠ k := fun e => hne (h.one j i y x hy h2 hj h1 (e.trans h3.symm))
    exact decide_eq_true this
  · obtain ⟨hy1, hy2⟩ := List.mem_filter.1 hy
    obtain ⟨j, z, h4, h5, h6⟩ := h.of_ y hy1
    have hne : i ≠ j := fun e => by
      subst e
      rw [h2] at h4
      cases h4
      have : y.key = k := by rw [← h6]; exact h3
      simp [this] at hy2
    exact ⟨j, z, h4, by rw [List.getElem?_set_ne hne]; exact h5, h6⟩
  · exact h.one j j' y y' hy hy' (old j hj).2 (old j' hj').2 he
  · have h4 := drop_count (fun z : BlP => z.key) k h.nodup ⟨x.p, h.is_ i x h2 h1, h3⟩
    have h5 := count_set_f h1
    have h6 := h.count
    unfold dropK
    omega
theorem Keep.same {L : List Blob} {W : List BlP} {th : List Bool} (h : Keep L W th) {k : Key} (hi : holdI L th k = none) : dropK W k = W := by
  refine drop_none ?_
  have := h.held k
  rw [hi] at this
  cases hb : byKey W k with
  | none => rfl
  | some y => rw [hb] at this; cases this
/-- how many of a key there are -/
def cntP (l : List BlP) (k : Key) : Nat := l.countP fun y => decide (y.key = k)
theorem cnt_none {W l : List BlP} {k : Key} (h : byKey W k = none) (hs : ∀ y ∈ l, y ∈ W) : cntP l k = 0 := by
  unfold cntP
  rw [List.countP_eq_zero]
  intro y hy
  unfold byKey at h
  rw [List.find?_eq_none] at h
  exact h y (hs y hy)
theorem cnt_one {k : Key} : ∀ {l : List BlP}, (l.map (·.key)).Nodup → (∃ y ∈ l, y.key = k) → cntP l k = 1
  | [], _, h => by obtain ⟨y, hy, _⟩ := h; cases hy
  | x :: l, hn, h => by
    rw [List.map_cons, List.nodup_cons] at hn
    unfold cntP
    rw [List.countP_cons]
    by_cases hx : x.key = k
    · have h0 : l.countP (fun y => decide (y.key = k)) = 0 := by
        rw [List.countP_eq_zero]
        intro y hy
        simp only [decide_eq_true_eq]
        exact fun e => hn.1 (List.mem_map.2 ⟨y, hy, e.trans hx.symm⟩)
      simp [h0, hx]
    · have h2 : ∃ y ∈ l, y.key = k := by
        obtain ⟨y, hy, hk⟩ := h
        rcases List.mem_cons.1 hy with rfl | hy
        · exact absurd hk hx
        · exact ⟨y, hy, hk⟩
      have := cnt_one hn.2 h2
      unfold cntP at this
      simp [this, hx]
/-- what is found of a blob, there or not -/
theorem Keep.found {L : List Blob} {W : List BlP} {th : List Bool} (h : Keep L W th) {i : Nat} {x : Blob} (hx : L[i]? = some x) :
    (th[i]? = some true → cntP (withHint W x.hint) x.key = 1 ∧ cntP (W.filter fun y => decide (y.key.ses = x.key.ses)) x.key = 1 ∧ (byKey W x.key).isSome = true ∧ (holdI L th x.key).isSome = true) ∧
    (holdI L th x.key = none → cntP (withHint W x.hint) x.key = 0 ∧ cntP (W.filter fun y => decide (y.key.ses = x.key.ses)) x.key = 0 ∧ (byKey W x.key).isSome = false) := by
  constructor
  · intro ht
    have hm := h.is_ i x hx ht
    have hb := byKey_some h.nodup hm rfl
    refine ⟨cnt_one (h.nodup.sublist (List.filter_sublist.map _)) ⟨x.p, List.mem_filter.2 ⟨hm, by simp [Blob.p]⟩, rfl⟩, cnt_one (h.nodup.sublist (List.filter_sublist.map _)) ⟨x.p, List.mem_filter.2 ⟨hm, by simp [Blob.p]⟩, rfl⟩, ?_, hold_has hx ht rfl⟩
    show (byKey W x.p.key).isSome = true
    rw [hb]
    rfl
  · intro hh
    have hb : byKey W x.key = none := by
      have := h.held x.key
      rw [hh] at this
      cases hb : byKey W x.key with
      | none => rfl
      | some y => rw [hb] at this; cases this
    refine ⟨cnt_none hb fun y hy => (List.mem_filter.1 hy).1, cnt_none hb fun y hy => (List.mem_filter.1 hy).1, by rw [hb]; rfl⟩
end Go.Proofs.Ytnmnbogdjlkmgaa
