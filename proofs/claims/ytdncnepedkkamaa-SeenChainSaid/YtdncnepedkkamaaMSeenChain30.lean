/- MSeenChain30: SeenP, SeenQ, SeenR. -/
import Derived.Test.YtdncnepedkkamaaMSeenChainsSeen3
import Derived.Test.YtdncnepedkkamaaMSeenChain28
import Derived.Test.YtdncnepedkkamaaMSeenChain8
/- SeenP: what an index of package seen holds of its blocks. No program in sight. -/
namespace Go.Proofs.Ytdncnepedkkamaa
set_option linter.unusedSimpArgs false
set_option linter.unusedVariables false
open Go.RowKit
set_option maxRecDepth 100000
set_option maxHeartbeats 2000000
/-- an id's places in a block at a height -/
def plcT (h : Nat) (t : List Id) (x : Id) : List Plc := if x ∈ t then [⟨UInt32.ofNat h, ((t.idxOf x : Nat) : Int)⟩] else []
/-- an id's places -/
def plcs : Nat → List (List Id) → Id → List Plc
  | _, [], _ => []
  | h, t :: L, x => plcT h t x ++ plcs (h + 1) L x
theorem plcs_snoc (h : Nat) (L : List (List Id)) (t : List Id) (x : Id) : plcs h (L ++ [t]) x = plcs h L x ++ plcT (h + L.length) t x := by
  induction L generalizing h with
  | nil => simp [plcs]
  | cons u L ih =>
    show plcT h u x ++ plcs (h + 1) (L ++ [t]) x = (plcT h u x ++ plcs (h + 1) L x) ++ _
    rw [ih, List.append_assoc, List.length_cons]
    congr 3
    omega
theorem plcT_h {h : Nat} {t : List Id} {x : Id} {p : Plc} (hp : p ∈ plcT h t x) : p.h = UInt32.ofNat h := by
  unfold plcT at hp
  split at hp
  · simp at hp; rw [hp]
  · simp at hp
theorem plcs_h {h : Nat} {L : List (List Id)} {x : Id} {p : Plc} (hp : p ∈ plcs h L x) : ∃ i, i < L.length ∧ p.h = UInt32.ofNat (h + i) := by
  induction L generalizing h with
  | nil => simp [plcs] at hp
  | cons t L ih =>
    rcases List.mem_append.1 hp with hp | hp
    · exact ⟨0, by simp, plcT_h hp⟩
    · obtain ⟨i, h1, h2⟩ := ih hp
      exact ⟨i + 1, by simp; omega, by rw [h2]; congr 1; omega⟩
theorem plcs_len {h : Nat} {L : List (List Id)} {x : Id} : (plcs h L x).length ≤ L.length := by
  induction L generalizing h with
  | nil => simp [plcs]
  | cons t L ih =>
    have h1 : (plcT h t x).length ≤ 1 := by unfold plcT; split <;> simp
    have h2 := ih (h := h + 1)
    show (plcT h t x ++ plcs (h + 1) L x).length ≤ _
    rw [List.length_append, List.length_cons]
    omega
theorem u32_ne {a b : Nat} (ha : a < 4294967296) (hb : b < 4294967296) (h : a ≠ b) : UInt32.ofNat a ≠ UInt32.ofNat b := fun e => by
  have := congrArg UInt32.toNat e
  rw [UInt32.toNat_ofNat_of_lt' (by simpa using ha), UInt32.toNat_ofNat_of_lt' (by simpa using hb)] at this
  exact h this
/-- what is held -/
structure SnI (X : Snx) (L : List (List Id)) (K : Nat) : Prop where
  bs : X.bs.l.map (fun B => B.tx.l) = L
  top : X.low.toNat + L.length ≤ 4294967296
  nd : ∀ t ∈ L, t.Nodup ∧ t.length ≤ 32
  w : ∀ x, (idx X.lw x).l = plcs X.low.toNat L x
  hn : ∀ k, (idx X.lh k).l.Nodup
  h : ∀ k y, y ∈ (idx X.lh k).l ↔ hintOf y = k ∧ ∃ t ∈ L, y ∈ t
  nw : -(K : Int) ≤ X.nw ∧ X.nw ≤ K
  nh : -(K : Int) ≤ X.nh ∧ X.nh ≤ K
theorem ofNat_low (X : Snx) : UInt32.ofNat X.low.toNat = X.low := by simp
theorem SnI.push {X : Snx} {L : List (List Id)} {K : Nat} (h : SnI X L K) {ht low' : UInt32} {t : List Id} (hc : (L = [] ∧ low' = ht) ∨ (L ≠ [] ∧ low' = X.low ∧ (ht.toNat : Int) = X.low.toNat + (L.length : Nat))) (hd : t.Nodup) (hn : t.length ≤ 32) {lw nw lh nh} (hI : PutI X ht t t.length lw nw lh nh) {s' : Sl Blk} {B : Blk} (hs' : s'.l = X.bs.l ++ [B]) (hB : B.tx.l = t) :
    SnI { X with low := low', bs := s', lw := lw, nw := nw, lh := lh, nh := nh } (L ++ [t]) (K + 32) := by
  have hlt := ht.toNat_lt
  have htop := h.top
  refine ⟨?_, ?_, ?_, fun x => ?_, fun k => ?_, fun k y => ?_, ?_, ?_⟩
  · show s'.l.map _ = _
    rw [hs', List.map_append, h.bs]
    simp [hB]
  · show low'.toNat + _ ≤ _
    rw [List.length_append]
    rcases hc with ⟨rfl, rfl⟩ | ⟨_, rfl, h2⟩
    · simp; omega
    · simp; omega
  · intro u hu
    rcases List.mem_append.1 hu with hu | hu
    · exact h.nd u hu
    · simp at hu; subst hu; exact ⟨hd, hn⟩
  · show (idx lw x).l = plcs low'.toNat (L ++ [t]) x
    rw [hI.w, List.take_length, plcs_snoc]
    rcases hc with ⟨rfl, rfl⟩ | ⟨_, rfl, h2⟩
    · have h0 : (idx X.lw x).l = [] := h.w x
      rw [h0]
      unfold plcT
      simp [plcs]
    · rw [h.w]
      have e : UInt32.ofNat (X.low.toNat + L.length) = ht := by
        rw [show X.low.toNat + L.length = ht.toNat by omega]; simp
      unfold plcT
      rw [e]
      split <;> simp
  · show (idx lh k).l.Nodup
    rw [hI.h, List.take_length]
    refine List.nodup_append.2 ⟨h.hn k, hd.filter _, fun a ha b hb e => ?_⟩
    subst e
    have := (List.mem_filter.1 hb).2
    simp at this
    exact this.2 ha
  · show y ∈ (idx lh k).l ↔ _
    rw [hI.h, List.take_length, List.mem_append, List.mem_filter]
    have hky := h.h k y
    simp only [Bool.and_eq_true, decide_eq_true_eq, Bool.not_eq_true', decide_eq_false_iff_not, List.mem_append, List.mem_singleton]
    constructor
    · rintro (h0 | ⟨h1, h2, _⟩)
      · obtain ⟨h1, u, h2, h3⟩ := hky.1 h0
        exact ⟨h1, u, .inl h2, h3⟩
      · exact ⟨h2, t, .inr rfl, h1⟩
    · rintro ⟨h1, u, h2 | rfl, h3⟩
      · exact .inl (hky.2 ⟨h1, u, h2, h3⟩)
      · by_cases hm : y ∈ (idx X.lh k).l
        · exact .inl hm
        · exact .inr ⟨h3, h1, hm⟩
  · have h1 := hI.nw1; have h2 := hI.nw2; have h3 := h.nw
    show _ ≤ nw ∧ nw ≤ _
    omega
  · have h1 := hI.nh1; have h2 := hI.nh2; have h3 := h.nh
    show _ ≤ nh ∧ nh ≤ _
    omega
theorem plcs_nil {h : Nat} {L : List (List Id)} {x : Id} : plcs h L x = [] ↔ ∀ u ∈ L, x ∉ u := by
  induction L generalizing h with
  | nil => simp [plcs]
  | cons t L ih =>
    show plcT h t x ++ plcs (h + 1) L x = [] ↔ _
    rw [List.append_eq_nil_iff, ih]
    unfold plcT
    constructor
    · rintro ⟨h1, h2⟩ u hu
      rcases List.mem_cons.1 hu with rfl | hu
      · intro hx; rw [if_pos hx] at h1; cases h1
      · exact h2 u hu
    · intro hh
      exact ⟨if_neg (hh t (by simp)), fun u hu => hh u (by simp [hu])⟩
/-- strikes: what is left, by what is left of each id's places -/
theorem stk_h2 {X : Snx} {ht : UInt32} {t : List Id} {L L0 : List (List Id)} {K h0 : Nat} (h : SnI X L K) (hE : ∀ x, x ∈ t → stkE X ht t x = plcs h0 L0 x) (hL : ∀ y, (∃ u ∈ L, y ∈ u) ↔ y ∈ t ∨ ∃ u ∈ L0, y ∈ u) {lw nw lh nh} (hI : StkI X ht t t.length lw nw lh nh) (k : Hint) (y : Id) : y ∈ (idx lh k).l ↔ hintOf y = k ∧ ∃ u ∈ L0, y ∈ u := by
  rw [hI.h, List.take_length, List.mem_filter, h.h, hL]
  simp only [Bool.not_eq_true', Bool.and_eq_false_iff, decide_eq_false_iff_not, List.isEmpty_eq_false_iff]
  constructor
  · rintro ⟨⟨h1, h2⟩, h3⟩
    refine ⟨h1, ?_⟩
    rcases h2 with h2 | h2
    · rcases h3 with h3 | h3
      · exact (h3 h2).elim
      · rw [hE y h2] at h3
        refine Classical.byContradiction fun hn => h3 (plcs_nil.2 fun u hu hy => hn ⟨u, hu, hy⟩)
    · exact h2
  · rintro ⟨h1, u, h2, h3⟩
    refine ⟨⟨h1, .inr ⟨u, h2, h3⟩⟩, ?_⟩
    by_cases hy : y ∈ t
    · right
      rw [hE y hy]
      exact fun e => plcs_nil.1 e u h2 h3
    · exact .inl hy
theorem SnI.pop {X : Snx} {L0 : List (List Id)} {t : List Id} {K : Nat} (h : SnI X (L0 ++ [t]) K) {ht : UInt32} (hht : (X.low.toNat : Int) + (L0.length : Nat) = ht.toNat) {lw nw lh nh} (hI : StkI X ht t t.length lw nw lh nh) {s' : Sl Blk} (hs' : s'.l.map (fun B => B.tx.l) = L0) :
    SnI { X with bs := s', lw := lw, nw := nw, lh := lh, nh := nh } L0 (K + 32) := by
  have htop := h.top
  have hlt := ht.toNat_lt
  rw [List.length_append, List.length_singleton] at htop
  have htn := (h.nd t (by simp)).2
  have hofn : UInt32.ofNat (X.low.toNat + L0.length) = ht := by
    rw [show X.low.toNat + L0.length = ht.toNat by omega]; simp
  have hE : ∀ x, x ∈ t → stkE X ht t x = plcs X.low.toNat L0 x := fun x hx => by
    unfold stkE
    rw [h.w, plcs_snoc]
    unfold plcT
    rw [if_pos hx, hofn]
    rw [List.erase_append_right _ fun hm => ?_]
    · simp
    · obtain ⟨i, hi, he⟩ := plcs_h hm
      have : ht = UInt32.ofNat (X.low.toNat + i) := he
      rw [← hofn] at this
      exact u32_ne (by omega) (by omega) (by omega) this
  refine ⟨hs', by show X.low.toNat + _ ≤ _; omega, fun u hu => h.nd u (by simp [hu]), fun x => ?_, fun k => ?_, fun k y => stk_h2 h hE (fun y => ?_) hI k y, ?_, ?_⟩
  · show (idx lw x).l = plcs X.low.toNat L0 x
    rw [hI.w, List.take_length]
    by_cases hx : x ∈ t
    · rw [if_pos hx, hE x hx]
    · rw [if_neg hx, h.w, plcs_snoc]
      unfold plcT
      rw [if_neg hx, List.append_nil]
  · show (idx lh k).l.Nodup
    rw [hI.h]
    exact (h.hn k).filter _
  · simp only [List.mem_append, List.mem_singleton]
    constructor
    · rintro ⟨u, h1 | rfl, h2⟩
      · exact .inr ⟨u, h1, h2⟩
      · exact .inl h2
    · rintro (h1 | ⟨u, h1, h2⟩)
      · exact ⟨t, .inr rfl, h1⟩
      · exact ⟨u, .inl h1, h2⟩
  · have h1 := hI.nw1; have h2 := hI.nw2; have h3 := h.nw
    show _ ≤ nw ∧ nw ≤ _
    omega
  · have h1 := hI.nh1; have h2 := hI.nh2; have h3 := h.nh
    show _ ≤ nh ∧ nh ≤ _
    omega
theorem SnI.shift {X : Snx} {L0 : List (List Id)} {t : List Id} {K : Nat} (h : SnI X (t :: L0) K) {lw nw lh nh} (hI : StkI X X.low t t.length lw nw lh nh) {s' : Sl Blk} (hs' : s'.l.map (fun B => B.tx.l) = L0) :
    SnI { X with low := X.low + 1, bs := s', lw := lw, nw := nw, lh := lh, nh := nh } L0 (K + 32) := by
  have htop := h.top
  rw [List.length_cons] at htop
  have htn := (h.nd t (by simp)).2
  have hlow : ∀ x, plcs (X.low.toNat + 1) L0 x = plcs (X.low + 1).toNat L0 x := fun x => by
    rcases L0 with _ | ⟨u, L1⟩
    · rfl
    · rw [List.length_cons] at htop
      have e : (X.low + 1).toNat = X.low.toNat + 1 := by
        rw [UInt32.toNat_add]
        show (X.low.toNat + 1) % 4294967296 = _
        omega
      rw [e]
  have hl2 : (X.low + 1).toNat + L0.length ≤ 4294967296 := by
    rw [UInt32.toNat_add]
    show (X.low.toNat + 1) % 4294967296 + _ ≤ _
    have := X.low.toNat_lt
    rcases L0 with _ | ⟨u, L1⟩
    · simp; omega
    · rw [List.length_cons] at htop ⊢; omega
  have hE : ∀ x, x ∈ t → stkE X X.low t x = plcs (X.low + 1).toNat L0 x := fun x hx => by
    unfold stkE
    rw [h.w, ← hlow]
    show List.erase (plcT _ t x ++ plcs _ L0 x) _ = _
    unfold plcT
    rw [if_pos hx, ofNat_low]
    simp
  refine ⟨hs', hl2, fun u hu => h.nd u (by simp [hu]), fun x => ?_, fun k => ?_, fun k y => stk_h2 h hE (fun y => ?_) hI k y, ?_, ?_⟩
  · show (idx lw x).l = plcs (X.low + 1).toNat L0 x
    rw [hI.w, List.take_length]
    by_cases hx : x ∈ t
    · rw [if_pos hx, hE x hx]
    · rw [if_neg hx, h.w, ← hlow]
      show plcT _ t x ++ plcs _ L0 x = _
      unfold plcT
      rw [if_neg hx, List.nil_append]
  · show (idx lh k).l.Nodup
    rw [hI.h]
    exact (h.hn k).filter _
  · simp
  · have h1 := hI.nw1; have h2 := hI.nw2; have h3 := h.nw
    show _ ≤ nw ∧ nw ≤ _
    omega
  · have h1 := hI.nh1; have h2 := hI.nh2; have h3 := h.nh
    show _ ≤ nh ∧ nh ≤ _
    omega
end Go.Proofs.Ytdncnepedkkamaa
/- SeenQ: the order of the ids of a hint. No program in sight. -/
namespace Go.Proofs.Ytdncnepedkkamaa
set_option linter.unusedSimpArgs false
set_option linter.unusedVariables false
open Go.RowKit
set_option maxRecDepth 100000
set_option maxHeartbeats 2000000
/-- the block and the place where an id stands first -/
def fstIJ : List (List Id) → Id → Option (Nat × Nat)
  | [], _ => none
  | t :: L, x => if x ∈ t then some (0, t.idxOf x) else (fstIJ L x).map fun p => (p.1 + 1, p.2)
theorem fstIJ_mem {x : Id} : ∀ {L : List (List Id)}, (∃ t ∈ L, x ∈ t) → ∃ p, fstIJ L x = some p
  | [], h => by obtain ⟨t, ht, _⟩ := h; cases ht
  | t :: L, h => by
    show ∃ p, (if x ∈ t then some (0, t.idxOf x) else (fstIJ L x).map fun p => (p.1 + 1, p.2)) = some p
    by_cases hx : x ∈ t
    · exact ⟨_, if_pos hx⟩
    · rw [if_neg hx]
      obtain ⟨u, hu, hxu⟩ := h
      rcases List.mem_cons.1 hu with rfl | hu
      · exact (hx hxu).elim
      · obtain ⟨p, hp⟩ := fstIJ_mem ⟨u, hu, hxu⟩
        exact ⟨_, by rw [hp]; rfl⟩
theorem fstIJ_at {x : Id} : ∀ {L : List (List Id)} {i j : Nat}, fstIJ L x = some (i, j) → ∃ t, L[i]? = some t ∧ t[j]? = some x
  | [], i, j, h => by cases h
  | t :: L, i, j, h => by
    have h' : (if x ∈ t then some (0, t.idxOf x) else (fstIJ L x).map fun p => (p.1 + 1, p.2)) = some (i, j) := h
    by_cases hx : x ∈ t
    · rw [if_pos hx] at h'
      injection h' with h'
      injection h' with h1 h2
      subst h1 h2
      exact ⟨t, rfl, by rw [List.getElem?_eq_getElem (List.idxOf_lt_length_of_mem hx)]; simp⟩
    · rw [if_neg hx] at h'
      cases hp : fstIJ L x with
      | none => rw [hp] at h'; cases h'
      | some p =>
        rw [hp] at h'
        simp only [Option.map_some, Option.some.injEq, Prod.mk.injEq] at h'
        obtain ⟨h1, h2⟩ := h'
        obtain ⟨u, h3, h4⟩ := fstIJ_at (L := L) (i := p.1) (j := p.2) hp
        refine ⟨u, ?_, by rw [← h2]; exact h4⟩
        rw [← h1, List.getElem?_cons_succ]
        exact h3
/-- the first of an id's places -/
theorem plcs_head {x : Id} : ∀ {L : List (List Id)} {h i j : Nat}, fstIJ L x = some (i, j) → ∃ ps, plcs h L x = ⟨UInt32.ofNat (h + i), (j : Int)⟩ :: ps
  | [], _, _, _, e => by cases e
  | t :: L, h, i, j, e => by
    have e' : (if x ∈ t then some (0, t.idxOf x) else (fstIJ L x).map fun p => (p.1 + 1, p.2)) = some (i, j) := e
    show ∃ ps, plcT h t x ++ plcs (h + 1) L x = _
    unfold plcT
    by_cases hx : x ∈ t
    · rw [if_pos hx] at e' ⊢
      injection e' with e'
      injection e' with h1 h2
      subst h1 h2
      exact ⟨_, rfl⟩
    · rw [if_neg hx] at e' ⊢
      cases hp : fstIJ L x with
      | none => rw [hp] at e'; cases e'
      | some p =>
        rw [hp] at e'
        simp only [Option.map_some, Option.some.injEq, Prod.mk.injEq] at e'
        obtain ⟨h1, h2⟩ := e'
        obtain ⟨ps, h3⟩ := plcs_head (h := h + 1) (i := p.1) (j := p.2) hp
        refine ⟨ps, ?_⟩
        rw [List.nil_append, h3, ← h1, ← h2]
        congr 3
        omega
theorem fstIJ_inj {L : List (List Id)} {x y : Id} {p : Nat × Nat} (hx : fstIJ L x = some p) (hy : fstIJ L y = some p) : x = y := by
  obtain ⟨t, h1, h2⟩ := fstIJ_at (i := p.1) (j := p.2) hx
  obtain ⟨u, h3, h4⟩ := fstIJ_at (i := p.1) (j := p.2) hy
  rw [h1] at h3
  cases h3
  rw [h2] at h4
  cases h4
  rfl
theorem toNat_of {n : Nat} (h : n < 4294967296) : (UInt32.ofNat n).toNat = n := UInt32.toNat_ofNat_of_lt' (by simpa using h)
theorem plcs_min {x : Id} : ∀ {L : List (List Id)} {h : Nat} {p : Plc} {ps : List Plc}, h + L.length ≤ 4294967296 → plcs h L x = p :: ps → ∀ q ∈ ps, ¬ plcLt q p
  | [], _, _, _, _, e => by cases e
  | t :: L, h, p, ps, htop, e => by
    rw [List.length_cons] at htop
    have e' : plcT h t x ++ plcs (h + 1) L x = p :: ps := e
    unfold plcT at e'
    by_cases hx : x ∈ t
    · rw [if_pos hx] at e'
      simp only [List.cons_append, List.nil_append, List.cons.injEq] at e'
      obtain ⟨h1, h2⟩ := e'
      intro q hq
      rw [← h2] at hq
      obtain ⟨i, hi, hqh⟩ := plcs_h hq
      have h3 : q.h.toNat = h + 1 + i := by rw [hqh]; exact toNat_of (by omega)
      have h4 : p.h.toNat = h := by rw [← h1]; exact toNat_of (by omega)
      unfold plcLt
      omega
    · rw [if_neg hx, List.nil_append] at e'
      exact plcs_min (h := h + 1) (by omega) e'
theorem fstP_at {X : Snx} {L : List (List Id)} {K : Nat} (h : SnI X L K) {x : Id} {i j : Nat} (hf : fstIJ L x = some (i, j)) : fstP X x = ⟨UInt32.ofNat (X.low.toNat + i), (j : Int)⟩ ∧ i < L.length := by
  obtain ⟨ps, h1⟩ := plcs_head (h := X.low.toNat) hf
  obtain ⟨t, h2, _⟩ := fstIJ_at hf
  refine ⟨?_, (List.getElem?_eq_some_iff.1 h2).1⟩
  unfold fstP
  rw [h.w, h1]
  exact minP_sorted (plcs_min h.top h1)
/-- one place before another -/
def ijLt (p q : Nat × Nat) : Prop := p.1 < q.1 ∨ (p.1 = q.1 ∧ p.2 < q.2)
theorem fstP_lt {X : Snx} {L : List (List Id)} {K : Nat} (h : SnI X L K) {x y : Id} {p q : Nat × Nat} (hx : fstIJ L x = some p) (hy : fstIJ L y = some q) : plcLt (fstP X x) (fstP X y) ↔ ijLt p q := by
  obtain ⟨h1, h2⟩ := fstP_at h (i := p.1) (j := p.2) hx
  obtain ⟨h3, h4⟩ := fstP_at h (i := q.1) (j := q.2) hy
  have htop := h.top
  rw [h1, h3]
  unfold plcLt ijLt
  dsimp only
  rw [toNat_of (by omega), toNat_of (by omega)]
  omega
/-- two orders of the same ids by first places are one -/
theorem order_one {X : Snx} {L : List (List Id)} {K : Nat} (h : SnI X L K) {l l' : List Id} (hp : l.Perm l') (hm : ∀ x ∈ l, ∃ t ∈ L, x ∈ t) (h1 : l.Pairwise fun x y => ¬ plcLt (fstP X y) (fstP X x)) (h2 : l'.Pairwise fun x y => ¬ plcLt (fstP X y) (fstP X x)) : l = l' := by
  refine hp.eq_of_pairwise (fun a b ha hb h3 h4 => ?_) h1 h2
  obtain ⟨p, hpa⟩ := fstIJ_mem (hm a ha)
  obtain ⟨q, hqb⟩ := fstIJ_mem (hm b (hp.mem_iff.2 hb))
  rw [fstP_lt h hqb hpa] at h3
  rw [fstP_lt h hpa hqb] at h4
  unfold ijLt at h3 h4
  have : p = q := Prod.ext (by omega) (by omega)
  exact fstIJ_inj hpa (this ▸ hqb)
/-- the document's list of a hint's ids -/
def docS (k : Hint) (out t : List Id) : List Id := out ++ t.filter fun y => decide (hintOf y = k) && !decide (y ∈ out)
def docH (L : List (List Id)) (k : Hint) : List Id := L.foldl (docS k) []
theorem docH_snoc (L : List (List Id)) (t : List Id) (k : Hint) : docH (L ++ [t]) k = docS k (docH L k) t := by
  unfold docH
  rw [List.foldl_append]
  rfl
theorem fstIJ_snoc {t : List Id} {x : Id} : ∀ {L : List (List Id)}, fstIJ (L ++ [t]) x = match fstIJ L x with | some p => some p | none => if x ∈ t then some (L.length, t.idxOf x) else none
  | [] => by
    show (if x ∈ t then some (0, t.idxOf x) else (fstIJ [] x).map fun p => (p.1 + 1, p.2)) = _
    rfl
  | u :: L => by
    show (if x ∈ u then some (0, u.idxOf x) else (fstIJ (L ++ [t]) x).map fun p => (p.1 + 1, p.2)) = match (if x ∈ u then some (0, u.idxOf x) else (fstIJ L x).map fun p => (p.1 + 1, p.2)) with | some p => some p | none => if x ∈ t then some ((u :: L).length, t.idxOf x) else none
    by_cases hx : x ∈ u
    · rw [if_pos hx, if_pos hx]
    · rw [if_neg hx, if_neg hx, fstIJ_snoc (L := L)]
      cases fstIJ L x with
      | some p => rfl
      | none =>
        by_cases ht : x ∈ t
        · simp [ht]
        · simp [ht]
theorem idxOf_pair {t : List Id} (hd : t.Nodup) : t.Pairwise fun a b => t.idxOf a < t.idxOf b := by
  rw [List.pairwise_iff_getElem]
  intro i j hi hj hij
  rw [idxOf_nd hd (List.getElem?_eq_getElem hi), idxOf_nd hd (List.getElem?_eq_getElem hj)]
  exact hij
/-- what the document's list is -/
structure DocI (L : List (List Id)) (k : Hint) (l : List Id) : Prop where
  mem : ∀ y, y ∈ l ↔ hintOf y = k ∧ ∃ t ∈ L, y ∈ t
  nd : l.Nodup
  ord : l.Pairwise fun x y => ∃ p q, fstIJ L x = some p ∧ fstIJ L y = some q ∧ ijLt p q
theorem DocI.step {L : List (List Id)} {k : Hint} {l t : List Id} (h : DocI L k l) (hd : t.Nodup) : DocI (L ++ [t]) k (docS k l t) := by
  refine ⟨fun y => ?_, ?_, ?_⟩
  · unfold docS
    rw [List.mem_append, List.mem_filter]
    have hy := h.mem y
    simp only [Bool.and_eq_true, decide_eq_true_eq, Bool.not_eq_true', decide_eq_false_iff_not, List.mem_append, List.mem_singleton]
    constructor
    · rintro (h0 | ⟨h1, h2, _⟩)
      · obtain ⟨h1, u, h2, h3⟩ := hy.1 h0
        exact ⟨h1, u, .inl h2, h3⟩
      · exact ⟨h2, t, .inr rfl, h1⟩
    · rintro ⟨h1, u, h2 | rfl, h3⟩
      · exact .inl (hy.2 ⟨h1, u, h2, h3⟩)
      · by_cases hm : y ∈ l
        · exact .inl hm
        · exact .inr ⟨h3, h1, hm⟩
  · refine List.nodup_append.2 ⟨h.nd, hd.filter _, fun a ha b hb e => ?_⟩
    subst e
    have := (List.mem_filter.1 hb).2
    simp at this
    exact this.2 ha
  · refine List.pairwise_append.2 ⟨h.ord.imp fun ⟨p, q, h1, h2, h3⟩ => ⟨p, q, by rw [fstIJ_snoc, h1], by rw [fstIJ_snoc, h2], h3⟩, ?_, fun a ha b hb => ?_⟩
    · have hnew : ∀ y, y ∈ t.filter (fun y => decide (hintOf y = k) && !decide (y ∈ l)) → fstIJ (L ++ [t]) y = some (L.length, t.idxOf y) := fun y hy => by
        obtain ⟨h1, h2⟩ := List.mem_filter.1 hy
        simp at h2
        have h3 : fstIJ L y = none := by
          cases hp : fstIJ L y with
          | none => rfl
          | some p =>
            obtain ⟨u, h4, h5⟩ := fstIJ_at (i := p.1) (j := p.2) hp
            exact (h2.2 ((h.mem y).2 ⟨h2.1, u, List.mem_of_getElem? h4, List.mem_of_getElem? h5⟩)).elim
        rw [fstIJ_snoc, h3]
        exact if_pos h1
      have h1 := (idxOf_pair hd).filter fun y => decide (hintOf y = k) && !decide (y ∈ l)
      refine List.Pairwise.imp_of_mem (fun {a b} ha hb hab => ⟨_, _, hnew a ha, hnew b hb, .inr ⟨rfl, hab⟩⟩) h1
    · obtain ⟨p, hp⟩ := fstIJ_mem ((h.mem a).1 ha).2
      obtain ⟨h1, h2⟩ := List.mem_filter.1 hb
      simp at h2
      have h3 : fstIJ L b = none := by
        cases hq : fstIJ L b with
        | none => rfl
        | some q =>
          obtain ⟨u, h4, h5⟩ := fstIJ_at (i := q.1) (j := q.2) hq
          exact (h2.2 ((h.mem b).2 ⟨h2.1, u, List.mem_of_getElem? h4, List.mem_of_getElem? h5⟩)).elim
      obtain ⟨u, h4, _⟩ := fstIJ_at (i := p.1) (j := p.2) hp
      refine ⟨p, (L.length, t.idxOf b), by rw [fstIJ_snoc, hp], by rw [fstIJ_snoc, h3]; exact if_pos h1, .inl (List.getElem?_eq_some_iff.1 h4).1⟩
theorem docI_take {L : List (List Id)} (hd : ∀ t ∈ L, t.Nodup) (k : Hint) : ∀ n, n ≤ L.length → DocI (L.take n) k (docH (L.take n) k)
  | 0, _ => ⟨fun y => by simp [docH], by simp [docH], by simp [docH]⟩
  | n + 1, hn => by
    have ht : L.take (n + 1) = L.take n ++ [L[n]] := by rw [List.take_add_one, List.getElem?_eq_getElem (by omega)]; rfl
    rw [ht, docH_snoc]
    exact (docI_take hd k n (by omega)).step (hd _ (List.getElem_mem _))
/-- what the index tells of a hint is what the document tells -/
theorem hinted_doc {X : Snx} {L : List (List Id)} {K : Nat} (h : SnI X L K) (k : Hint) {l : List Id} (hp : l.Perm (idx X.lh k).l) (ho : l.Pairwise fun x y => ¬ plcLt (fstP X y) (fstP X x)) : l = docH L k := by
  have hd := docI_take (L := L) (fun t ht => (h.nd t ht).1) k L.length (Nat.le_refl _)
  rw [List.take_length] at hd
  have hpm : (idx X.lh k).l.Perm (docH L k) := by
    refine (List.perm_ext_iff_of_nodup (h.hn k) hd.nd).2 fun y => ?_
    rw [h.h, hd.mem]
  refine order_one h (hp.trans hpm) (fun x hx => ((h.h k x).1 (hp.mem_iff.1 hx)).2) ho (hd.ord.imp ?_)
  rintro a b ⟨p, q, h1, h2, h3⟩ h4
  have h5 := (fstP_lt h h2 h1).1 h4
  unfold ijLt at h3 h5
  omega
end Go.Proofs.Ytdncnepedkkamaa
/- SeenR: what an index tells of an id is what the document tells. No program in sight. -/
namespace Go.Proofs.Ytdncnepedkkamaa
set_option linter.unusedSimpArgs false
set_option linter.unusedVariables false
open Go.RowKit
set_option maxRecDepth 100000
set_option maxHeartbeats 2000000
abbrev txs (l : List Blk) : List (List Id) := l.map fun b => b.tx.l
theorem rFirst_ij (x : Id) : ∀ l : List Blk, rFirst l x = (fstIJ (txs l) x).map (·.1)
  | [] => rfl
  | b :: l => by
    show (if x ∈ b.tx.l then some 0 else (rFirst l x).map (· + 1)) = ((if x ∈ b.tx.l then some (0, b.tx.l.idxOf x) else (fstIJ (txs l) x).map fun p => (p.1 + 1, p.2)) : Option (Nat × Nat)).map (·.1)
    by_cases hx : x ∈ b.tx.l
    · rw [if_pos hx, if_pos hx]; rfl
    · rw [if_neg hx, if_neg hx, rFirst_ij x l]
      cases fstIJ (txs l) x <;> rfl
theorem rTimes_plcs (x : Id) : ∀ (l : List Blk) (h : Nat), rTimes l x = (plcs h (txs l) x).length
  | [], _ => rfl
  | b :: l, h => by
    have ih := rTimes_plcs x l (h + 1)
    show _ = (plcT h b.tx.l x ++ plcs (h + 1) (txs l) x).length
    rw [List.length_append, ← ih]
    unfold rTimes plcT
    by_cases hx : x ∈ b.tx.l
    · simp [hx]; omega
    · simp [hx]
/-- what Has answers -/
theorem has_doc {X : Snx} {K : Nat} {l : List Blk} (h : SnI X (txs l) K) (x : Id) : (match (idx X.lw x).l with | [] => Value.tuple #[.int .u32 0, .bool false] | p :: ps => .tuple #[u32 (minP p ps).h, .bool true]) = (match rFirst l x with | none => .tuple #[.int .u32 0, .bool false] | some i => .tuple #[.int .u32 ((X.low.toNat : Int) + (i : Nat)), .bool true]) := by
  rw [rFirst_ij, h.w]
  cases hf : fstIJ (txs l) x with
  | none =>
    have h0 : plcs X.low.toNat (txs l) x = [] := plcs_nil.2 fun u hu hx => by
      obtain ⟨p, hp⟩ := fstIJ_mem ⟨u, hu, hx⟩
      rw [hf] at hp
      cases hp
    rw [h0]
    rfl
  | some p =>
    obtain ⟨ps, h1⟩ := plcs_head (h := X.low.toNat) (i := p.1) (j := p.2) hf
    obtain ⟨h2, h3⟩ := fstP_at h (i := p.1) (j := p.2) hf
    have htop := h.top
    rw [h1]
    show Value.tuple #[u32 (minP _ ps).h, .bool true] = .tuple #[.int .u32 ((X.low.toNat : Int) + (p.1 : Nat)), .bool true]
    rw [minP_sorted (plcs_min h.top h1)]
    show Value.tuple #[.int .u32 ((UInt32.ofNat (X.low.toNat + p.1)).toNat : Int), .bool true] = _
    rw [toNat_of (by omega)]
    congr 3
theorem times_doc {X : Snx} {K : Nat} {l : List Blk} (h : SnI X (txs l) K) (x : Id) : (idx X.lw x).l.length = rTimes l x := by rw [h.w, rTimes_plcs x l X.low.toNat]
end Go.Proofs.Ytdncnepedkkamaa
