/- PoolP: what waits, by keys, and what becomes of it. No program in sight. -/
import Derived.Test.YthcapeihhldpcaaPool5
import Derived.Test.YthcapeihhldpcaaMet
namespace Go.Proofs.Ythcapeihhldpcaa
set_option linter.unusedSimpArgs false
set_option linter.unusedVariables false
open Go.RowKit
set_option maxRecDepth 100000
set_option maxHeartbeats 2000000

/-- a submission, its bytes told -/
structure SubP where
  key : Key
  breach : Id
  height : UInt32
  tier : Int
  bytes : List UInt8
  deriving DecidableEq
abbrev Sub.p (s : Sub) : SubP := ⟨s.key, s.breach, s.height, s.tier, s.tx.l⟩
/-- the order of keys -/
def kAhead (a b : Key) : Bool := decide (a.ses.toNat < b.ses.toNat) || (decide (a.ses = b.ses) && decide (a.seq.toNat < b.seq.toNat))
theorem kAhead_iff {a b : Key} : kAhead a b = true ↔ a.ses.toNat < b.ses.toNat ∨ (a.ses = b.ses ∧ a.seq.toNat < b.seq.toNat) := by simp [kAhead]
theorem kAhead_irrefl (a : Key) : kAhead a a = false := by simp [kAhead]
theorem u32_ne {a b : UInt32} (h : a ≠ b) : a.toNat ≠ b.toNat := fun e => h (UInt32.toNat_inj.1 e)
theorem kAhead_trans {a b c : Key} (h1 : kAhead a b = true) (h2 : kAhead b c = true) : kAhead a c = true := by
  rw [kAhead_iff] at *
  rcases h1 with h1 | ⟨e1, h1⟩ <;> rcases h2 with h2 | ⟨e2, h2⟩
  · exact .inl (by omega)
  · exact .inl (by rw [← e2]; exact h1)
  · exact .inl (by rw [e1]; exact h2)
  · exact .inr ⟨e1.trans e2, by omega⟩
theorem kAhead_total {a b : Key} (h : a ≠ b) : kAhead a b = true ∨ kAhead b a = true := by
  rw [kAhead_iff, kAhead_iff]
  by_cases hs : a.ses = b.ses
  · have hq : a.seq ≠ b.seq := fun e => h (by cases a; cases b; simp_all)
    have := u32_ne hq
    rcases Nat.lt_or_gt_of_ne this with h1 | h1
    · exact .inl (.inr ⟨hs, h1⟩)
    · exact .inr (.inr ⟨hs.symm, h1⟩)
  · have := u32_ne hs
    rcases Nat.lt_or_gt_of_ne this with h1 | h1
    · exact .inl (.inl h1)
    · exact .inr (.inl h1)
theorem kAhead_asymm {a b : Key} (h : kAhead a b = true) : kAhead b a = false := by
  cases hb : kAhead b a with
  | false => rfl
  | true =>
    have := kAhead_trans h hb
    rw [kAhead_irrefl] at this
    cases this
theorem kAhead_ne {a b : Key} (h : kAhead a b = true) : a ≠ b := fun e => by rw [e, kAhead_irrefl] at h; cases h
/-- keys' order as a number -/
def kCmp (a b : Key) : Int := if kAhead a b = true then -1 else if a = b then 0 else 1
theorem kCmp_lt (a b : Key) : decide (kCmp a b < 0) = kAhead a b := by
  unfold kCmp
  cases h : kAhead a b with
  | true => simp
  | false =>
    rw [if_neg (by simp)]
    split <;> simp
/-- in the order of keys -/
abbrev Ords (W : List SubP) : Prop := W.Pairwise fun x y => kAhead x.key y.key = true
theorem Ords.inj {W : List SubP} (h : Ords W) {x y : SubP} (hx : x ∈ W) (hy : y ∈ W) (he : x.key = y.key) : x = y := by
  induction W with
  | nil => cases hx
  | cons z W ih =>
    rw [Ords, List.pairwise_cons] at h
    rcases List.mem_cons.1 hx with rfl | hx' <;> rcases List.mem_cons.1 hy with rfl | hy'
    · rfl
    · have := kAhead_ne (h.1 _ hy'); exact absurd he this
    · have := kAhead_ne (h.1 _ hx'); exact absurd he.symm this
    · exact ih h.2 hx' hy'
theorem Ords.nodup {W : List SubP} (h : Ords W) : (W.map (·.key)).Nodup := List.Pairwise.map _ (fun _ _ hh => kAhead_ne hh) h
theorem ords_eq {l W : List SubP} (h : Ords W) (hp : l.Perm W) (hs : l.Pairwise fun x y => kAhead y.key x.key = false) : l = W := by
  refine List.Perm.eq_of_pairwise (le := fun x y => kAhead y.key x.key = false) (fun a b ha hb h1 h2 => ?_) hs (h.imp fun hh => kAhead_asymm hh) hp
  false_or_by_contra
  rename_i hne
  have hk : a.key ≠ b.key := fun e => hne (h.inj (hp.mem_iff.1 ha) hb e)
  rcases kAhead_total hk with h3 | h3
  · rw [h2] at h3; cases h3
  · rw [h1] at h3; cases h3
/-- put in by its key -/
def insS (s : SubP) : List SubP → List SubP
  | [] => [s]
  | y :: r => if kAhead y.key s.key = true then y :: insS s r else if y.key = s.key then s :: r else s :: y :: r
/-- what the document's loop has behind some -/
def putD (s : SubP) (W : List SubP) : List SubP := if ∀ y ∈ W, kAhead y.key s.key = true then W else insS s W
theorem insS_all {s : SubP} : ∀ {W : List SubP}, (∀ y ∈ W, kAhead y.key s.key = true) → insS s W = W ++ [s]
  | [], _ => rfl
  | y :: r, h => by
    rw [insS, if_pos (h y (List.mem_cons_self ..)), insS_all fun z hz => h z (List.mem_cons_of_mem _ hz)]
    rfl
theorem insS_app {s : SubP} : ∀ {W V : List SubP}, (∀ y ∈ W, kAhead y.key s.key = true) → insS s (W ++ V) = W ++ insS s V
  | [], _, _ => rfl
  | y :: r, V, h => by
    rw [List.cons_append, insS, if_pos (h y (List.mem_cons_self ..)), insS_app fun z hz => h z (List.mem_cons_of_mem _ hz)]
    rfl
theorem insS_snoc {s y : SubP} : ∀ {W : List SubP}, ¬ (∀ z ∈ W, kAhead z.key s.key = true) → insS s (W ++ [y]) = insS s W ++ [y]
  | [], h => absurd (fun z hz => by cases hz) h
  | z :: r, h => by
    rw [List.cons_append, insS, insS]
    by_cases hz : kAhead z.key s.key = true
    · rw [if_pos hz, if_pos hz, insS_snoc fun hh => h fun u hu => by
        rcases List.mem_cons.1 hu with rfl | hu
        · exact hz
        · exact hh u hu]
      rfl
    · rw [if_neg hz, if_neg hz]
      split <;> rfl
/-- one step of the document's loop -/
theorem putD_next {s y : SubP} {W : List SubP} (h : Ords (W ++ [y])) : putD s (W ++ [y]) =
    (if (∀ z ∈ W, kAhead z.key s.key = true) ∧ kAhead y.key s.key = false then W ++ [s] else putD s W) ++ (if y.key = s.key then [] else [y]) := by
  have h1 := List.pairwise_append.1 h
  by_cases ha : ∀ z ∈ W, kAhead z.key s.key = true
  · by_cases hy : kAhead y.key s.key = true
    · have hall : ∀ z ∈ W ++ [y], kAhead z.key s.key = true := fun z hz => by
        rcases List.mem_append.1 hz with hz | hz
        · exact ha z hz
        · rw [List.mem_singleton.1 hz]; exact hy
      rw [putD, if_pos hall, if_neg (by rw [hy]; simp), putD, if_pos ha, if_neg (kAhead_ne hy)]
    · have hy' : kAhead y.key s.key = false := by simpa using hy
      have hn : ¬ ∀ z ∈ W ++ [y], kAhead z.key s.key = true := fun hh => hy (hh y (by simp))
      rw [putD, if_neg hn, if_pos ⟨ha, hy'⟩, insS_app ha, insS, if_neg hy]
      split
      · simp [insS]
      · simp [insS]
  · have hn : ¬ ∀ z ∈ W ++ [y], kAhead z.key s.key = true := fun hh => ha fun z hz => hh z (List.mem_append_left _ hz)
    have hne : y.key ≠ s.key := fun e => ha fun z hz => by
      have := h1.2.2 z hz y (by simp)
      rwa [e] at this
    rw [putD, if_neg hn, if_neg fun hh => ha hh.1, putD, if_neg ha, if_neg hne, insS_snoc ha]
theorem putD_end {s : SubP} {W : List SubP} : (if ∀ z ∈ W, kAhead z.key s.key = true then putD s W ++ [s] else putD s W) = insS s W := by
  by_cases ha : ∀ z ∈ W, kAhead z.key s.key = true
  · rw [if_pos ha, putD, if_pos ha, insS_all ha]
  · rw [if_neg ha, putD, if_neg ha]
theorem insS_mem {s z : SubP} : ∀ {W : List SubP}, z ∈ insS s W → z = s ∨ z ∈ W
  | [], h => .inl (List.mem_singleton.1 h)
  | y :: r, h => by
    rw [insS] at h
    split at h
    · rcases List.mem_cons.1 h with rfl | h
      · exact .inr (List.mem_cons_self ..)
      · exact (insS_mem h).imp id (List.mem_cons_of_mem _)
    · split at h
      · rcases List.mem_cons.1 h with rfl | h
        · exact .inl rfl
        · exact .inr (List.mem_cons_of_mem _ h)
      · rcases List.mem_cons.1 h with rfl | h
        · exact .inl rfl
        · exact .inr h
theorem insS_ords {s : SubP} : ∀ {W : List SubP}, Ords W → Ords (insS s W)
  | [], _ => List.pairwise_singleton ..
  | y :: r, h => by
    have h1 := List.pairwise_cons.1 h
    rw [insS]
    split
    · rename_i hy
      refine List.pairwise_cons.2 ⟨fun z hz => ?_, insS_ords h1.2⟩
      rcases insS_mem hz with rfl | hz
      · exact hy
      · exact h1.1 z hz
    · rename_i hy
      split
      · rename_i he
        exact List.pairwise_cons.2 ⟨fun z hz => by rw [← he]; exact h1.1 z hz, h1.2⟩
      · rename_i he
        have hs : kAhead s.key y.key = true := (kAhead_total fun e => he e.symm).resolve_right hy
        refine List.pairwise_cons.2 ⟨fun z hz => ?_, h⟩
        rcases List.mem_cons.1 hz with rfl | hz
        · exact hs
        · exact kAhead_trans hs (h1.1 z hz)
theorem insS_perm {s : SubP} : ∀ {W : List SubP}, Ords W → (insS s W).Perm (s :: W.filter fun y => decide (y.key ≠ s.key))
  | [], _ => .refl _
  | y :: r, h => by
    have h1 := List.pairwise_cons.1 h
    rw [insS]
    split
    · rename_i hy
      rw [List.filter_cons_of_pos (by simpa using kAhead_ne hy)]
      exact ((insS_perm h1.2).cons _).trans (.swap ..)
    · rename_i hy
      have hr : ∀ z ∈ r, kAhead y.key s.key = false → (y.key = s.key ∨ kAhead s.key y.key = true) → z.key ≠ s.key := fun z hz _ hc e => by
        have h2 := h1.1 z hz
        rw [e] at h2
        exact hy h2
      split
      · rename_i he
        rw [List.filter_cons_of_neg (by simpa using he), List.filter_eq_self.2 fun z hz => by simpa using hr z hz (by simpa using hy) (.inl he)]
      · rename_i he
        have hs : kAhead s.key y.key = true := (kAhead_total fun e => he e.symm).resolve_right hy
        rw [List.filter_cons_of_pos (by simpa using he), List.filter_eq_self.2 fun z hz => by simpa using hr z hz (by simpa using hy) (.inr hs)]
theorem insS_len {s : SubP} : ∀ {W : List SubP}, (insS s W).length ≤ W.length + 1
  | [] => Nat.le_refl _
  | y :: r => by
    rw [insS]
    have := insS_len (s := s) (W := r)
    split
    · simp only [List.length_cons]; omega
    · split <;> simp only [List.length_cons] <;> omega
/-- the map's entries and what waits -/
structure PoI (l : List (Key × Wt)) (W : List SubP) : Prop where
  perm : (l.map (·.2.sub.p)).Perm W
  key : ∀ p ∈ l, p.1 = p.2.sub.key
  id : ∀ p ∈ l, p.2.id = shaV p.2.sub.tx.l
  ord : Ords W
  len : ∀ y ∈ W, 1 ≤ y.bytes.length ∧ y.bytes.length ≤ 64
  many : W.length ≤ 1000
theorem PoI.mem {l : List (Key × Wt)} {W : List SubP} (h : PoI l W) {p : Key × Wt} (hp : p ∈ l) : p.2.sub.p ∈ W := h.perm.mem_iff.1 (List.mem_map_of_mem (f := fun p : Key × Wt => p.2.sub.p) hp)
theorem PoI.len_eq {l : List (Key × Wt)} {W : List SubP} (h : PoI l W) : l.length = W.length := by have := h.perm.length_eq; rwa [List.length_map] at this
theorem PoI.bytes {l : List (Key × Wt)} {W : List SubP} (h : PoI l W) : ∀ p ∈ l, p.2.sub.tx.l.length ≤ 64 := fun p hp => (h.len _ (h.mem hp)).2
theorem PoI.nodup {l : List (Key × Wt)} {W : List SubP} (h : PoI l W) : (l.map (·.1)).Nodup := by
  have h1 : l.map (·.1) = (l.map (·.2.sub.p)).map (·.key) := by
    rw [List.map_map]
    exact List.map_congr_left fun p hp => h.key p hp
  rw [h1]
  exact ((h.perm.map _).nodup_iff).2 h.ord.nodup
theorem poI_nil : PoI [] [] := ⟨.nil, by simp, by simp, .nil, by simp, by simp⟩
/-- by its key -/
def byK (W : List SubP) (k : Key) : Option SubP := W.find? fun y => decide (y.key = k)
theorem byK_some {W : List SubP} (h : Ords W) {y : SubP} (hy : y ∈ W) : byK W y.key = some y := by
  unfold byK
  cases hf : W.find? fun z => decide (z.key = y.key) with
  | none => exact absurd (List.find?_eq_none.1 hf y hy) (by simp)
  | some z =>
    have h1 := List.mem_of_find?_eq_some hf
    have h2 := List.find?_some hf
    rw [h.inj h1 hy (of_decide_eq_true h2)]
theorem byK_mem {W : List SubP} {k : Key} {y : SubP} (h : byK W k = some y) : y ∈ W ∧ y.key = k := by
  unfold byK at h
  have h2 := List.find?_some h
  exact ⟨List.mem_of_find?_eq_some h, of_decide_eq_true h2⟩
theorem PoI.look {l : List (Key × Wt)} {W : List SubP} (h : PoI l W) (k : Key) : (l.lookup k).map (·.sub.p) = byK W k := by
  cases hl : l.lookup k with
  | none =>
    cases hb : byK W k with
    | none => rfl
    | some y =>
      obtain ⟨hy, hk⟩ := byK_mem hb
      obtain ⟨p, hp, he⟩ := List.mem_map.1 (h.perm.mem_iff.2 hy)
      have hp1 : p.1 = k := by rw [h.key p hp, ← hk, ← he]
      have := lookup_in h.nodup (k := k) (v := p.2) (by rw [← hp1]; exact hp)
      rw [this] at hl
      cases hl
  | some v =>
    have hm := lookup_mem hl
    have h1 := h.mem hm
    have h2 := h.key _ hm
    rw [Option.map_some]
    have h3 := byK_some h.ord h1
    rw [show v.sub.p.key = k from h2.symm] at h3
    exact h3.symm
theorem mput_permP {κ ν : Type} [DecidableEq κ] (k : κ) (v : ν) : ∀ {l : List (κ × ν)}, (l.map (·.1)).Nodup → (mput l k v).Perm ((k, v) :: l.filter fun p => decide (p.1 ≠ k))
  | [], _ => by simp [mput]
  | p :: l, hn => by
    rw [List.map_cons, List.nodup_cons] at hn
    by_cases hk : p.1 = k
    · have h2 : ∀ q ∈ l, q.1 ≠ k := fun q hq e => hn.1 (by rw [hk, ← e]; exact List.mem_map_of_mem (f := fun x : κ × ν => x.1) hq)
      have h1 : mput (p :: l) k v = (k, v) :: l := by
        unfold mput
        rw [if_pos (by simp [hk]), List.map_cons, if_pos hk, List.map_congr_left fun q hq => if_neg (h2 q hq), List.map_id']
      rw [h1, List.filter_cons_of_neg (by simpa using hk), List.filter_eq_self.2 fun q hq => by simpa using h2 q hq]
    · have h1 : mput (p :: l) k v = p :: mput l k v := by
        unfold mput
        by_cases hkl : k ∈ l.map (·.1)
        · rw [if_pos hkl, if_pos (by rw [List.map_cons]; exact List.mem_cons_of_mem _ hkl), List.map_cons, if_neg hk]
        · rw [if_neg hkl, if_neg (by rw [List.map_cons, List.mem_cons]; exact fun h => h.elim (fun e => hk e.symm) hkl)]
          rfl
      rw [h1, List.filter_cons_of_pos (by simpa using hk)]
      exact ((mput_permP k v hn.2).cons _).trans (.swap ..)
theorem PoI.put {l : List (Key × Wt)} {W : List SubP} (h : PoI l W) {v : Wt} (hid : v.id = shaV v.sub.tx.l) (hlen : 1 ≤ v.sub.tx.l.length ∧ v.sub.tx.l.length ≤ 64) (hm : W.length < 1000) : PoI (mput l v.sub.key v) (insS v.sub.p W) := by
  have hp := mput_permP v.sub.key v h.nodup
  have hmem : ∀ p ∈ mput l v.sub.key v, p = (v.sub.key, v) ∨ p ∈ l := fun p hpm => by
    rcases List.mem_cons.1 (hp.mem_iff.1 hpm) with h1 | h1
    · exact .inl h1
    · exact .inr (List.mem_filter.1 h1).1
  refine ⟨?_, fun p hpm => ?_, fun p hpm => ?_, insS_ords h.ord, fun y hy => ?_, Nat.le_trans insS_len hm⟩
  · refine ((hp.map _).trans ?_).trans (insS_perm h.ord).symm
    rw [List.map_cons]
    refine List.Perm.cons _ ?_
    have h1 : (l.filter fun p => decide (p.1 ≠ v.sub.key)).map (·.2.sub.p) = (l.map (·.2.sub.p)).filter fun y => decide (y.key ≠ v.sub.key) := by
      rw [List.filter_map]
      congr 1
      exact List.filter_congr fun p hpm => by rw [h.key p hpm]; rfl
    rw [h1]
    exact h.perm.filter _
  · rcases hmem p hpm with rfl | h1
    · rfl
    · exact h.key p h1
  · rcases hmem p hpm with rfl | h1
    · exact hid
    · exact h.id p h1
  · rcases insS_mem hy with rfl | hy
    · exact hlen
    · exact h.len y hy
theorem PoI.drop {l l' : List (Key × Wt)} {W : List SubP} {q : SubP → Bool} (h : PoI l W) (hl : l'.Perm (l.filter fun p => q p.2.sub.p)) : PoI l' (W.filter q) := by
  have hm : ∀ p ∈ l', p ∈ l := fun p hp => (List.mem_filter.1 (hl.mem_iff.1 hp)).1
  refine ⟨?_, fun p hp => h.key p (hm p hp), fun p hp => h.id p (hm p hp), h.ord.filter _, fun y hy => h.len y (List.mem_filter.1 hy).1, Nat.le_trans (List.length_filter_le ..) h.many⟩
  refine (hl.map _).trans ?_
  have h1 : (l.filter fun p => q p.2.sub.p).map (·.2.sub.p) = (l.map (·.2.sub.p)).filter q := by rw [List.filter_map]; rfl
  rw [h1]
  exact h.perm.filter _
end Go.Proofs.Ythcapeihhldpcaa
