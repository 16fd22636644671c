/- MSeenDoes27: SeenP, Seen4, HintC. -/
import Derived.Test.YtdncnepedkkamaaMSeenDoessSeen3
import Derived.Test.YtdncnepedkkamaaMSeenDoes15
import Derived.Test.YtdncnepedkkamaaMSeenDoes13
/- SeenP: what an index of package seen holds of its blocks. No program in sight. -/
namespace Go.Proofs.Ytdncnepedkkamaa
set_option linter.unusedSimpArgs false
set_option linter.unusedVariables false
open Go.RowKit
set_option maxRecDepth 100000
set_option maxHeartbeats 2000000
/-- an id's places in a block at a height -/
def plcT (h : Nat) (t : List Id) (x : Id) : List Plc := if x ∈ t then [⟨UInt32.ofNat h, ((t.idxOf x : Nat) : Int)⟩] else []
/-- an id's places -/
def plcs : Nat → List (List Id) → Id → List Plc
  | _, [], _ => []
  | h, t :: L, x => plcT h t x ++ plcs (h + 1) L x
theorem plcs_snoc (h : Nat) (L : List (List Id)) (t : List Id) (x : Id) : plcs h (L ++ [t]) x = plcs h L x ++ plcT (h + L.length) t x := by
  induction L generalizing h with
  | nil => simp [plcs]
  | cons u L ih =>
    show plcT h u x ++ plcs (h + 1) (L ++ [t]) x = (plcT h u x ++ plcs (h + 1) L x) ++ _
    rw [ih, List.append_assoc, List.length_cons]
    congr 3
    omega
theorem plcT_h {h : Nat} {t : List Id} {x : Id} {p : Plc} (hp : p ∈ plcT h t x) : p.h = UInt32.ofNat h := by
  unfold plcT at hp
  split at hp
  · simp at hp; rw [hp]
  · simp at hp
theorem plcs_h {h : Nat} {L : List (List Id)} {x : Id} {p : Plc} (hp : p ∈ plcs h L x) : ∃ i, i < L.length ∧ p.h = UInt32.ofNat (h + i) := by
  induction L generalizing h with
  | nil => simp [plcs] at hp
  | cons t L ih =>
    rcases List.mem_append.1 hp with hp | hp
    · exact ⟨0, by simp, plcT_h hp⟩
    · obtain ⟨i, h1, h2⟩ := ih hp
      exact ⟨i + 1, by simp; omega, by rw [h2]; congr 1; omega⟩
theorem plcs_len {h : Nat} {L : List (List Id)} {x : Id} : (plcs h L x).length ≤ L.length := by
  induction L generalizing h with
  | nil => simp [plcs]
  | cons t L ih =>
    have h1 : (plcT h t x).length ≤ 1 := by unfold plcT; split <;> simp
    have h2 := ih (h := h + 1)
    show (plcT h t x ++ plcs (h + 1) L x).length ≤ _
    rw [List.length_append, List.length_cons]
    omega
theorem u32_ne {a b : Nat} (ha : a < 4294967296) (hb : b < 4294967296) (h : a ≠ b) : UInt32.ofNat a ≠ UInt32.ofNat b := fun e => by
  have := congrArg UInt32.toNat e
  rw [UInt32.toNat_ofNat_of_lt' (by simpa using ha), UInt32.toNat_ofNat_of_lt' (by simpa using hb)] at this
  exact h this
/-- what is held -/
structure SnI (X : Snx) (L : List (List Id)) (K : Nat) : Prop where
  bs : X.bs.l.map (fun B => B.tx.l) = L
  top : X.low.toNat + L.length ≤ 4294967296
  nd : ∀ t ∈ L, t.Nodup ∧ t.length ≤ 32
  w : ∀ x, (idx X.lw x).l = plcs X.low.toNat L x
  hn : ∀ k, (idx X.lh k).l.Nodup
  h : ∀ k y, y ∈ (idx X.lh k).l ↔ hintOf y = k ∧ ∃ t ∈ L, y ∈ t
  nw : -(K : Int) ≤ X.nw ∧ X.nw ≤ K
  nh : -(K : Int) ≤ X.nh ∧ X.nh ≤ K
theorem ofNat_low (X : Snx) : UInt32.ofNat X.low.toNat = X.low := by simp
theorem SnI.push {X : Snx} {L : List (List Id)} {K : Nat} (h : SnI X L K) {ht low' : UInt32} {t : List Id} (hc : (L = [] ∧ low' = ht) ∨ (L ≠ [] ∧ low' = X.low ∧ (ht.toNat : Int) = X.low.toNat + (L.length : Nat))) (hd : t.Nodup) (hn : t.length ≤ 32) {lw nw lh nh} (hI : PutI X ht t t.length lw nw lh nh) {s' : Sl Blk} {B : Blk} (hs' : s'.l = X.bs.l ++ [B]) (hB : B.tx.l = t) :
    SnI { X with low := low', bs := s', lw := lw, nw := nw, lh := lh, nh := nh } (L ++ [t]) (K + 32) := by
  have hlt := ht.toNat_lt
  have htop := h.top
  refine ⟨?_, ?_, ?_, fun x => ?_, fun k => ?_, fun k y => ?_, ?_, ?_⟩
  · show s'.l.map _ = _
    rw [hs', List.map_append, h.bs]
    simp [hB]
  · show low'.toNat + _ ≤ _
    rw [List.length_append]
    rcases hc with ⟨rfl, rfl⟩ | ⟨_, rfl, h2⟩
    · simp; omega
    · simp; omega
  · intro u hu
    rcases List.mem_append.1 hu with hu | hu
    · exact h.nd u hu
    · simp at hu; subst hu; exact ⟨hd, hn⟩
  · show (idx lw x).l = plcs low'.toNat (L ++ [t]) x
    rw [hI.w, List.take_length, plcs_snoc]
    rcases hc with ⟨rfl, rfl⟩ | ⟨_, rfl, h2⟩
    · have h0 : (idx X.lw x).l = [] := h.w x
      rw [h0]
      unfold plcT
      simp [plcs]
    · rw [h.w]
      have e : UInt32.ofNat (X.low.toNat + L.length) = ht := by
        rw [show X.low.toNat + L.length = ht.toNat by omega]; simp
      unfold plcT
      rw [e]
      split <;> simp
  · show (idx lh k).l.Nodup
    rw [hI.h, List.take_length]
    refine List.nodup_append.2 ⟨h.hn k, hd.filter _, fun a ha b hb e => ?_⟩
    subst e
    have := (List.mem_filter.1 hb).2
    simp at this
    exact this.2 ha
  · show y ∈ (idx lh k).l ↔ _
    rw [hI.h, List.take_length, List.mem_append, List.mem_filter]
    have hky := h.h k y
    simp only [Bool.and_eq_true, decide_eq_true_eq, Bool.not_eq_true', decide_eq_false_iff_not, List.mem_append, List.mem_singleton]
    constructor
    · rintro (h0 | ⟨h1, h2, _⟩)
      · obtain ⟨h1, u, h2, h3⟩ := hky.1 h0
        exact ⟨h1, u, .inl h2, h3⟩
      · exact ⟨h2, t, .inr rfl, h1⟩
    · rintro ⟨h1, u, h2 | rfl, h3⟩
      · exact .inl (hky.2 ⟨h1, u, h2, h3⟩)
      · by_cases hm : y ∈ (idx X.lh k).l
        · exact .inl hm
        · exact .inr ⟨h3, h1, hm⟩
  · have h1 := hI.nw1; have h2 := hI.nw2; have h3 := h.nw
    show _ ≤ nw ∧ nw ≤ _
    omega
  · have h1 := hI.nh1; have h2 := hI.nh2; have h3 := h.nh
    show _ ≤ nh ∧ nh ≤ _
    omega
theorem plcs_nil {h : Nat} {L : List (List Id)} {x : Id} : plcs h L x = [] ↔ ∀ u ∈ L, x ∉ u := by
  induction L generalizing h with
  | nil => simp [plcs]
  | cons t L ih =>
    show plcT h t x ++ plcs (h + 1) L x = [] ↔ _
    rw [List.append_eq_nil_iff, ih]
    unfold plcT
    constructor
    · rintro ⟨h1, h2⟩ u hu
      rcases List.mem_cons.1 hu with rfl | hu
      · intro hx; rw [if_pos hx] at h1; cases h1
      · exact h2 u hu
    · intro hh
      exact ⟨if_neg (hh t (by simp)), fun u hu => hh u (by simp [hu])⟩
/-- strikes: what is left, by what is left of each id's places -/
theorem stk_h2 {X : Snx} {ht : UInt32} {t : List Id} {L L0 : List (List Id)} {K h0 : Nat} (h : SnI X L K) (hE : ∀ x, x ∈ t → stkE X ht t x = plcs h0 L0 x) (hL : ∀ y, (∃ u ∈ L, y ∈ u) ↔ y ∈ t ∨ ∃ u ∈ L0, y ∈ u) {lw nw lh nh} (hI : StkI X ht t t.length lw nw lh nh) (k : Hint) (y : Id) : y ∈ (idx lh k).l ↔ hintOf y = k ∧ ∃ u ∈ L0, y ∈ u := by
  rw [hI.h, List.take_length, List.mem_filter, h.h, hL]
  simp only [Bool.not_eq_true', Bool.and_eq_false_iff, decide_eq_false_iff_not, List.isEmpty_eq_false_iff]
  constructor
  · rintro ⟨⟨h1, h2⟩, h3⟩
    refine ⟨h1, ?_⟩
    rcases h2 with h2 | h2
    · rcases h3 with h3 | h3
      · exact (h3 h2).elim
      · rw [hE y h2] at h3
        refine Classical.byContradiction fun hn => h3 (plcs_nil.2 fun u hu hy => hn ⟨u, hu, hy⟩)
    · exact h2
  · rintro ⟨h1, u, h2, h3⟩
    refine ⟨⟨h1, .inr ⟨u, h2, h3⟩⟩, ?_⟩
    by_cases hy : y ∈ t
    · right
      rw [hE y hy]
      exact fun e => plcs_nil.1 e u h2 h3
    · exact .inl hy
theorem SnI.pop {X : Snx} {L0 : List (List Id)} {t : List Id} {K : Nat} (h : SnI X (L0 ++ [t]) K) {ht : UInt32} (hht : (X.low.toNat : Int) + (L0.length : Nat) = ht.toNat) {lw nw lh nh} (hI : StkI X ht t t.length lw nw lh nh) {s' : Sl Blk} (hs' : s'.l.map (fun B => B.tx.l) = L0) :
    SnI { X with bs := s', lw := lw, nw := nw, lh := lh, nh := nh } L0 (K + 32) := by
  have htop := h.top
  have hlt := ht.toNat_lt
  rw [List.length_append, List.length_singleton] at htop
  have htn := (h.nd t (by simp)).2
  have hofn : UInt32.ofNat (X.low.toNat + L0.length) = ht := by
    rw [show X.low.toNat + L0.length = ht.toNat by omega]; simp
  have hE : ∀ x, x ∈ t → stkE X ht t x = plcs X.low.toNat L0 x := fun x hx => by
    unfold stkE
    rw [h.w, plcs_snoc]
    unfold plcT
    rw [if_pos hx, hofn]
    rw [List.erase_append_right _ fun hm => ?_]
    · simp
    · obtain ⟨i, hi, he⟩ := plcs_h hm
      have : ht = UInt32.ofNat (X.low.toNat + i) := he
      rw [← hofn] at this
      exact u32_ne (by omega) (by omega) (by omega) this
  refine ⟨hs', by show X.low.toNat + _ ≤ _; omega, fun u hu => h.nd u (by simp [hu]), fun x => ?_, fun k => ?_, fun k y => stk_h2 h hE (fun y => ?_) hI k y, ?_, ?_⟩
  · show (idx lw x).l = plcs X.low.toNat L0 x
    rw [hI.w, List.take_length]
    by_cases hx : x ∈ t
    · rw [if_pos hx, hE x hx]
    · rw [if_neg hx, h.w, plcs_snoc]
      unfold plcT
      rw [if_neg hx, List.append_nil]
  · show (idx lh k).l.Nodup
    rw [hI.h]
    exact (h.hn k).filter _
  · simp only [List.mem_append, List.mem_singleton]
    constructor
    · rintro ⟨u, h1 | rfl, h2⟩
      · exact .inr ⟨u, h1, h2⟩
      · exact .inl h2
    · rintro (h1 | ⟨u, h1, h2⟩)
      · exact ⟨t, .inr rfl, h1⟩
      · exact ⟨u, .inl h1, h2⟩
  · have h1 := hI.nw1; have h2 := hI.nw2; have h3 := h.nw
    show _ ≤ nw ∧ nw ≤ _
    omega
  · have h1 := hI.nh1; have h2 := hI.nh2; have h3 := h.nh
    show _ ≤ nh ∧ nh ≤ _
    omega
theorem SnI.shift {X : Snx} {L0 : List (List Id)} {t : List Id} {K : Nat} (h : SnI X (t :: L0) K) {lw nw lh nh} (hI : StkI X X.low t t.length lw nw lh nh) {s' : Sl Blk} (hs' : s'.l.map (fun B => B.tx.l) = L0) :
    SnI { X with low := X.low + 1, bs := s', lw := lw, nw := nw, lh := lh, nh := nh } L0 (K + 32) := by
  have htop := h.top
  rw [List.length_cons] at htop
  have htn := (h.nd t (by simp)).2
  have hlow : ∀ x, plcs (X.low.toNat + 1) L0 x = plcs (X.low + 1).toNat L0 x := fun x => by
    rcases L0 with _ | ⟨u, L1⟩
    · rfl
    · rw [List.length_cons] at htop
      have e : (X.low + 1).toNat = X.low.toNat + 1 := by
        rw [UInt32.toNat_add]
        show (X.low.toNat + 1) % 4294967296 = _
        omega
      rw [e]
  have hl2 : (X.low + 1).toNat + L0.length ≤ 4294967296 := by
    rw [UInt32.toNat_add]
    show (X.low.toNat + 1) % 4294967296 + _ ≤ _
    have := X.low.toNat_lt
    rcases L0 with _ | ⟨u, L1⟩
    · simp; omega
    · rw [List.length_cons] at htop ⊢; omega
  have hE : ∀ x, x ∈ t → stkE X X.low t x = plcs (X.low + 1).toNat L0 x := fun x hx => by
    unfold stkE
    rw [h.w, ← hlow]
    show List.erase (plcT _ t x ++ plcs _ L0 x) _ = _
    unfold plcT
    rw [if_pos hx, ofNat_low]
    simp
  refine ⟨hs', hl2, fun u hu => h.nd u (by simp [hu]), fun x => ?_, fun k => ?_, fun k y => stk_h2 h hE (fun y => ?_) hI k y, ?_, ?_⟩
  · show (idx lw x).l = plcs (X.low + 1).toNat L0 x
    rw [hI.w, List.take_length]
    by_cases hx : x ∈ t
    · rw [if_pos hx, hE x hx]
    · rw [if_neg hx, h.w, ← hlow]
      show plcT _ t x ++ plcs _ L0 x = _
      unfold plcT
      rw [if_neg hx, List.nil_append]
  · show (idx lh k).l.Nodup
    rw [hI.h]
    exact (h.hn k).filter _
  · simp
  · have h1 := hI.nw1; have h2 := hI.nw2; have h3 := h.nw
    show _ ≤ nw ∧ nw ≤ _
    omega
  · have h1 := hI.nh1; have h2 := hI.nh2; have h3 := h.nh
    show _ ≤ nh ∧ nh ≤ _
    omega
end Go.Proofs.Ytdncnepedkkamaa
/- Seen4: an index of package seen: Span; what is refused. -/
namespace Go.Proofs.Ytdncnepedkkamaa
set_option linter.unusedSimpArgs false
set_option linter.unusedVariables false
open Go.RowKit
set_option maxRecDepth 100000
set_option maxHeartbeats 2000000
theorem spop_none {w0 : World} {b : Nat} {X : Snx} (h : SnAt w0 b X) (h0 : X.bs.l = []) : Calls Try.prog 32 #[ptr b] w0 fun e w' => e = .returned (.bool false) ∧ Chg N0 w0 w' := by
  have hp := Hp.start (S := N0) w0
  have hln := fun {w : World} (hc : Chg N0 w0 w) => slen_any (h.keep0 hc)
  rw [h0, show (([] : List Blk).length : Int) = 0 from rfl] at hln
  refine calls_x (args := [_]) tabOk Try.func32 Try.ntmps32 Try.results32 rfl (Nat.le_of_ble_eq_true rfl) ?_
  ((conv => whnf); repeat' ((first | ((with_reducible refine br_id ?_); first | (with_reducible (first | refine br_t ?_ | refine br_f ?_ | refine br_not ?_)) | ((with_reducible (first | refine br_dec (fun hx => ?_) (fun hx => ?_) | refine br_eq (fun hx => ?_) (fun hx => ?_) | refine br_ne (fun hx => ?_) (fun hx => ?_) | refine br_s (fun hx => ?_) (fun hx => ?_))) <;> (try (exfalso; first | omega | exact absurd hx (by assumption) | exact absurd (by assumption) hx)))) | ((with_reducible refine ar_id ?_); first | (refine ar_i64 (by omega) ?_) | (refine ar_u32 (by omega) ?_) | (refine ar_u64 (by omega) ?_) | (refine ar_u8 (by omega) ?_)) | ((with_reducible refine cn_id ?_); first | (refine cn rfl ?_) | (refine cn (by assumption) ?_) | (refine cn (by omega) ?_) | (refine cn (Chg.refl _ _) ?_)) | ((with_reducible refine ld_id ?_); first | (apply ld_hs hp; (focus ((repeat (first | exact Has.here | apply Has.there)); done)); exact rfl) | (refine ld_of (by assumption) ?_)) | ((with_reducible refine ldn_id ?_); first | (apply lda_hs hp; (focus ((repeat (first | exact Has.here | apply Has.there)); done)); exact rfl) | (apply ldn_hs hp; (focus ((repeat (first | exact Has.here | apply Has.there)); done)); exact rfl; exact rfl)) | ((with_reducible refine al_id ?_); first | (refine al_cel hp ?_; clear hp; intro bb w hp)) | ((with_reducible refine st_id ?_); first | (apply sta_hs hp; (focus ((repeat (first | exact Has.here | apply Has.there)); done)); exact rfl; exact rfl; clear hp; intro w hp; (try dsimp only [List.set] at hp)) | (apply st_hs hp; (focus ((repeat (first | exact Has.here | apply Has.there)); done)); exact rfl; exact rfl; clear hp; intro w hp; (try dsimp only [List.set] at hp))) | ((with_reducible refine gen_id ?_); first | (apply gen_build; exact rfl; exact rfl) | (apply gen_len; exact rfl; exact rfl; assumption) | (apply gen_min; exact rfl; exact rfl; exact rfl) | (apply gen_max; exact rfl; exact rfl; exact rfl) | (apply gen_ix; exact rfl; exact rfl; exact rfl; exact rfl; omega) | (apply gen_ixa; exact rfl; exact rfl; exact rfl; exact rfl; omega)) | ((with_reducible refine fk_id ?_); first | (refine fk_mk ?_ ?_)) | ((with_reducible refine cl_id ?_); first | ((refine cl_eq ((hln hp.chg)) rfl rfl ?_; rintro e w ⟨rfl, hcc⟩; replace hp := hp.call0 hcc; refine ⟨_, rfl, ?_⟩))) | ((with_reducible refine rd_id ?_); first | (apply rd_len; exact rfl; exact rfl; assumption) | (apply rd_ix; exact rfl; exact rfl; exact rfl; exact rfl; omega))) <;> (conv => whnf)))
  exact ps_val (v' := .bool false) rfl ⟨rfl, hp.chg⟩
theorem sshift_none {w0 : World} {b : Nat} {X : Snx} (h : SnAt w0 b X) (h0 : X.bs.l = []) : Calls Try.prog 34 #[ptr b] w0 fun e w' => e = .returned (.bool false) ∧ Chg N0 w0 w' := by
  have hp := Hp.start (S := N0) w0
  have hln := fun {w : World} (hc : Chg N0 w0 w) => slen_any (h.keep0 hc)
  rw [h0, show (([] : List Blk).length : Int) = 0 from rfl] at hln
  refine calls_x (args := [_]) tabOk Try.func34 Try.ntmps34 Try.results34 rfl (Nat.le_of_ble_eq_true rfl) ?_
  ((conv => whnf); repeat' ((first | ((with_reducible refine br_id ?_); first | (with_reducible (first | refine br_t ?_ | refine br_f ?_ | refine br_not ?_)) | ((with_reducible (first | refine br_dec (fun hx => ?_) (fun hx => ?_) | refine br_eq (fun hx => ?_) (fun hx => ?_) | refine br_ne (fun hx => ?_) (fun hx => ?_) | refine br_s (fun hx => ?_) (fun hx => ?_))) <;> (try (exfalso; first | omega | exact absurd hx (by assumption) | exact absurd (by assumption) hx)))) | ((with_reducible refine ar_id ?_); first | (refine ar_i64 (by omega) ?_) | (refine ar_u32 (by omega) ?_) | (refine ar_u64 (by omega) ?_) | (refine ar_u8 (by omega) ?_)) | ((with_reducible refine cn_id ?_); first | (refine cn rfl ?_) | (refine cn (by assumption) ?_) | (refine cn (by omega) ?_) | (refine cn (Chg.refl _ _) ?_)) | ((with_reducible refine ld_id ?_); first | (apply ld_hs hp; (focus ((repeat (first | exact Has.here | apply Has.there)); done)); exact rfl) | (refine ld_of (by assumption) ?_)) | ((with_reducible refine ldn_id ?_); first | (apply lda_hs hp; (focus ((repeat (first | exact Has.here | apply Has.there)); done)); exact rfl) | (apply ldn_hs hp; (focus ((repeat (first | exact Has.here | apply Has.there)); done)); exact rfl; exact rfl)) | ((with_reducible refine al_id ?_); first | (refine al_cel hp ?_; clear hp; intro bb w hp)) | ((with_reducible refine st_id ?_); first | (apply sta_hs hp; (focus ((repeat (first | exact Has.here | apply Has.there)); done)); exact rfl; exact rfl; clear hp; intro w hp; (try dsimp only [List.set] at hp)) | (apply st_hs hp; (focus ((repeat (first | exact Has.here | apply Has.there)); done)); exact rfl; exact rfl; clear hp; intro w hp; (try dsimp only [List.set] at hp))) | ((with_reducible refine gen_id ?_); first | (apply gen_build; exact rfl; exact rfl) | (apply gen_len; exact rfl; exact rfl; assumption) | (apply gen_min; exact rfl; exact rfl; exact rfl) | (apply gen_max; exact rfl; exact rfl; exact rfl) | (apply gen_ix; exact rfl; exact rfl; exact rfl; exact rfl; omega) | (apply gen_ixa; exact rfl; exact rfl; exact rfl; exact rfl; omega)) | ((with_reducible refine fk_id ?_); first | (refine fk_mk ?_ ?_)) | ((with_reducible refine cl_id ?_); first | ((refine cl_eq ((hln hp.chg)) rfl rfl ?_; rintro e w ⟨rfl, hcc⟩; replace hp := hp.call0 hcc; refine ⟨_, rfl, ?_⟩))) | ((with_reducible refine rd_id ?_); first | (apply rd_len; exact rfl; exact rfl; assumption) | (apply rd_ix; exact rfl; exact rfl; exact rfl; exact rfl; omega))) <;> (conv => whnf)))
  exact ps_val (v' := .bool false) rfl ⟨rfl, hp.chg⟩
theorem sspan_none {w0 : World} {b : Nat} {X : Snx} (h : SnAt w0 b X) (h0 : X.bs.l = []) : Calls Try.prog 44 #[ptr b] w0 fun e w' => e = .returned (.tuple #[.int .u32 0, .int .u32 0]) ∧ Chg N0 w0 w' := by
  have hp := Hp.start (S := N0) w0
  have hln := fun {w : World} (hc : Chg N0 w0 w) => slen_any (h.keep0 hc)
  rw [h0, show (([] : List Blk).length : Int) = 0 from rfl] at hln
  refine calls_x (args := [_]) tabOk Try.func44 Try.ntmps44 Try.results44 rfl (Nat.le_of_ble_eq_true rfl) ?_
  ((conv => whnf); repeat' ((first | ((with_reducible refine br_id ?_); first | (with_reducible (first | refine br_t ?_ | refine br_f ?_ | refine br_not ?_)) | ((with_reducible (first | refine br_dec (fun hx => ?_) (fun hx => ?_) | refine br_eq (fun hx => ?_) (fun hx => ?_) | refine br_ne (fun hx => ?_) (fun hx => ?_) | refine br_s (fun hx => ?_) (fun hx => ?_))) <;> (try (exfalso; first | omega | exact absurd hx (by assumption) | exact absurd (by assumption) hx)))) | ((with_reducible refine ar_id ?_); first | (refine ar_i64 (by omega) ?_) | (refine ar_u32 (by omega) ?_) | (refine ar_u64 (by omega) ?_) | (refine ar_u8 (by omega) ?_)) | ((with_reducible refine cn_id ?_); first | (refine cn rfl ?_) | (refine cn (by assumption) ?_) | (refine cn (by omega) ?_) | (refine cn (Chg.refl _ _) ?_)) | ((with_reducible refine ld_id ?_); first | (apply ld_hs hp; (focus ((repeat (first | exact Has.here | apply Has.there)); done)); exact rfl) | (refine ld_of (by assumption) ?_)) | ((with_reducible refine ldn_id ?_); first | (apply lda_hs hp; (focus ((repeat (first | exact Has.here | apply Has.there)); done)); exact rfl) | (apply ldn_hs hp; (focus ((repeat (first | exact Has.here | apply Has.there)); done)); exact rfl; exact rfl)) | ((with_reducible refine al_id ?_); first | (refine al_cel hp ?_; clear hp; intro bb w hp)) | ((with_reducible refine st_id ?_); first | (apply sta_hs hp; (focus ((repeat (first | exact Has.here | apply Has.there)); done)); exact rfl; exact rfl; clear hp; intro w hp; (try dsimp only [List.set] at hp)) | (apply st_hs hp; (focus ((repeat (first | exact Has.here | apply Has.there)); done)); exact rfl; exact rfl; clear hp; intro w hp; (try dsimp only [List.set] at hp))) | ((with_reducible refine gen_id ?_); first | (apply gen_build; exact rfl; exact rfl) | (apply gen_len; exact rfl; exact rfl; assumption) | (apply gen_min; exact rfl; exact rfl; exact rfl) | (apply gen_max; exact rfl; exact rfl; exact rfl) | (apply gen_ix; exact rfl; exact rfl; exact rfl; exact rfl; omega) | (apply gen_ixa; exact rfl; exact rfl; exact rfl; exact rfl; omega)) | ((with_reducible refine fk_id ?_); first | (refine fk_mk ?_ ?_)) | ((with_reducible refine cl_id ?_); first | ((refine cl_eq ((hln hp.chg)) rfl rfl ?_; rintro e w ⟨rfl, hcc⟩; replace hp := hp.call0 hcc; refine ⟨_, rfl, ?_⟩))) | ((with_reducible refine rd_id ?_); first | (apply rd_len; exact rfl; exact rfl; assumption) | (apply rd_ix; exact rfl; exact rfl; exact rfl; exact rfl; omega))) <;> (conv => whnf)))
  exact ps_val (v' := .tuple #[.int .u32 0, .int .u32 0]) rfl ⟨rfl, hp.chg⟩
theorem sspan_any {w0 : World} {b : Nat} {X : Snx} (h : SnAt w0 b X) {n : Nat} (hn : X.bs.l.length = n + 1) {hi : UInt32} (hhi : (X.low.toNat : Int) + (n : Nat) = hi.toNat) : Calls Try.prog 44 #[ptr b] w0 fun e w' => e = .returned (.tuple #[u32 X.low, u32 hi]) ∧ Chg N0 w0 w' := by
  have hp := Hp.start (S := N0) w0
  have hln := fun {w : World} (hc : Chg N0 w0 w) => slen_any (h.keep0 hc)
  rw [hn] at hln
  have hlt := hi.toNat_lt
  have hl2 := X.low.toNat_lt
  have e1 : ((n + 1 : Nat) : Int) - 1 = (n : Nat) := by omega
  refine calls_x (args := [_]) tabOk Try.func44 Try.ntmps44 Try.results44 rfl (Nat.le_of_ble_eq_true rfl) ?_
  ((conv => whnf); repeat' ((first | ((with_reducible refine br_id ?_); first | (with_reducible (first | refine br_t ?_ | refine br_f ?_ | refine br_not ?_)) | ((with_reducible (first | refine br_dec (fun hx => ?_) (fun hx => ?_) | refine br_eq (fun hx => ?_) (fun hx => ?_) | refine br_ne (fun hx => ?_) (fun hx => ?_) | refine br_s (fun hx => ?_) (fun hx => ?_))) <;> (try (exfalso; first | omega | exact absurd hx (by assumption) | exact absurd (by assumption) hx)))) | ((with_reducible refine ar_id ?_); first | (refine ar_i64 (by omega) ?_) | (refine ar_u32 (by omega) ?_) | (refine ar_u64 (by omega) ?_) | (refine ar_u8 (by omega) ?_)) | ((with_reducible refine cn_id ?_); first | (refine cn rfl ?_) | (refine cn (by assumption) ?_) | (refine cn (by omega) ?_) | (refine cn (Chg.refl _ _) ?_)) | ((with_reducible refine ld_id ?_); first | (apply ld_hs hp; (focus ((repeat (first | exact Has.here | apply Has.there)); done)); exact rfl) | (refine ld_of (by assumption) ?_)) | ((with_reducible refine ldn_id ?_); first | (apply lda_hs hp; (focus ((repeat (first | exact Has.here | apply Has.there)); done)); exact rfl) | (apply ldn_hs hp; (focus ((repeat (first | exact Has.here | apply Has.there)); done)); exact rfl; exact rfl)) | ((with_reducible refine al_id ?_); first | (refine al_cel hp ?_; clear hp; intro bb w hp)) | ((with_reducible refine st_id ?_); first | (apply sta_hs hp; (focus ((repeat (first | exact Has.here | apply Has.there)); done)); exact rfl; exact rfl; clear hp; intro w hp; (try dsimp only [List.set] at hp)) | (apply st_hs hp; (focus ((repeat (first | exact Has.here | apply Has.there)); done)); exact rfl; exact rfl; clear hp; intro w hp; (try dsimp only [List.set] at hp))) | ((with_reducible refine gen_id ?_); first | (apply gen_build; exact rfl; exact rfl) | (apply gen_len; exact rfl; exact rfl; assumption) | (apply gen_min; exact rfl; exact rfl; exact rfl) | (apply gen_max; exact rfl; exact rfl; exact rfl) | (apply gen_ix; exact rfl; exact rfl; exact rfl; exact rfl; omega) | (apply gen_ixa; exact rfl; exact rfl; exact rfl; exact rfl; omega)) | ((with_reducible refine fk_id ?_); first | (refine fk_mk ?_ ?_)) | ((with_reducible refine cl_id ?_); first | ((refine cl_eq ((hln hp.chg)) rfl rfl ?_; rintro e w ⟨rfl, hcc⟩; replace hp := hp.call0 hcc; refine ⟨_, rfl, ?_⟩))) | ((with_reducible refine rd_id ?_); first | (apply rd_len; exact rfl; exact rfl; assumption) | (apply rd_ix; exact rfl; exact rfl; exact rfl; exact rfl; omega))) <;> (conv => whnf)))
  refine dr_autos [] 1000 tabOk (by kernel_rfl) (by decide +kernel) ?_
  replace hp := hp.drew
  ((conv => whnf); repeat' ((first | ((with_reducible refine br_id ?_); first | (with_reducible (first | refine br_t ?_ | refine br_f ?_ | refine br_not ?_)) | ((with_reducible (first | refine br_dec (fun hx => ?_) (fun hx => ?_) | refine br_eq (fun hx => ?_) (fun hx => ?_) | refine br_ne (fun hx => ?_) (fun hx => ?_) | refine br_s (fun hx => ?_) (fun hx => ?_))) <;> (try (exfalso; first | omega | exact absurd hx (by assumption) | exact absurd (by assumption) hx)))) | ((with_reducible refine ar_id ?_); first | ((refine ar_n (n) (by omega) (by omega) ?_)) | (refine ar_i64 (by omega) ?_) | (refine ar_u32 (by omega) ?_) | (refine ar_u64 (by omega) ?_) | (refine ar_u8 (by omega) ?_)) | ((with_reducible refine cn_id ?_); first | (refine cn rfl ?_) | (refine cn (by assumption) ?_) | (refine cn (by omega) ?_) | (refine cn (Chg.refl _ _) ?_)) | ((with_reducible refine ld_id ?_); first | ((refine ld_of ((h.keep0 hp.chg).cell rfl) ?_)) | (apply ld_hs hp; (focus ((repeat (first | exact Has.here | apply Has.there)); done)); exact rfl) | (refine ld_of (by assumption) ?_)) | ((with_reducible refine ldn_id ?_); first | (apply lda_hs hp; (focus ((repeat (first | exact Has.here | apply Has.there)); done)); exact rfl) | (apply ldn_hs hp; (focus ((repeat (first | exact Has.here | apply Has.there)); done)); exact rfl; exact rfl)) | ((with_reducible refine al_id ?_); first | (refine al_cel hp ?_; clear hp; intro bb w hp)) | ((with_reducible refine st_id ?_); first | (apply sta_hs hp; (focus ((repeat (first | exact Has.here | apply Has.there)); done)); exact rfl; exact rfl; clear hp; intro w hp; (try dsimp only [List.set] at hp)) | (apply st_hs hp; (focus ((repeat (first | exact Has.here | apply Has.there)); done)); exact rfl; exact rfl; clear hp; intro w hp; (try dsimp only [List.set] at hp))) | ((with_reducible refine gen_id ?_); first | (apply gen_build; exact rfl; exact rfl) | (apply gen_len; exact rfl; exact rfl; assumption) | (apply gen_min; exact rfl; exact rfl; exact rfl) | (apply gen_max; exact rfl; exact rfl; exact rfl) | (apply gen_ix; exact rfl; exact rfl; exact rfl; exact rfl; omega) | (apply gen_ixa; exact rfl; exact rfl; exact rfl; exact rfl; omega)) | ((with_reducible refine dr_id ?_); first | (refine dr_auto tabOk (by kernel_rfl) (by decide +kernel) ?_; (try replace hp := hp.drew)) | (refine dr_autog tabOk (by kernel_rfl) (by decide +kernel) ?_; (try replace hp := hp.drew)) | (refine dr_autot tabOk (by kernel_rfl) (by decide +kernel) ?_; (try replace hp := hp.drew))) | ((with_reducible refine fk_id ?_); first | (refine fk_mk ?_ ?_)) | ((with_reducible refine rd_id ?_); first | ((refine rd_conv tabOk rfl rfl rfl rfl ?_)) | (apply rd_len; exact rfl; exact rfl; assumption) | (apply rd_ix; exact rfl; exact rfl; exact rfl; exact rfl; omega))) <;> (conv => whnf)))
  all_goals exact ps_val (v' := .tuple #[u32 X.low, .int .u32 ((X.low.toNat : Int) + (n : Nat))]) rfl ⟨by rw [hhi], hp.chg⟩
theorem spush_bad {w0 : World} {b : Nat} {X : Snx} (h : SnAt w0 b X) (ht : UInt32) {B : Blk} {C : Nat} (hB : SlAt C w0 Id.c 32 B.tx) (hR : rightB B = false) : Calls Try.prog 30 #[ptr b, u32 ht, B.v] w0 fun e w' => e = .returned (i64 4) ∧ Chg N0 w0 w' := by
  have hp := Hp.start (S := N0) w0
  have hb : ∀ b, N0 b → C ≤ b := fun _ hh => hh.elim
  have hri := fun {w : World} (hc : Chg N0 w0 w) => blkright_any (hB.keep hc hb)
  rw [hR] at hri
  refine calls_x (args := [_, _, _]) tabOk Try.func30 Try.ntmps30 Try.results30 rfl (Nat.le_of_ble_eq_true rfl) ?_
  ((conv => whnf); repeat' ((first | ((with_reducible refine br_id ?_); first | (with_reducible (first | refine br_t ?_ | refine br_f ?_ | refine br_not ?_)) | ((with_reducible (first | refine br_dec (fun hx => ?_) (fun hx => ?_) | refine br_eq (fun hx => ?_) (fun hx => ?_) | refine br_ne (fun hx => ?_) (fun hx => ?_) | refine br_s (fun hx => ?_) (fun hx => ?_))) <;> (try (exfalso; first | omega | exact absurd hx (by assumption) | exact absurd (by assumption) hx)))) | ((with_reducible refine ar_id ?_); first | (refine ar_i64 (by omega) ?_) | (refine ar_u32 (by omega) ?_) | (refine ar_u64 (by omega) ?_) | (refine ar_u8 (by omega) ?_)) | ((with_reducible refine cn_id ?_); first | (refine cn rfl ?_) | (refine cn (by assumption) ?_) | (refine cn (by omega) ?_) | (refine cn (Chg.refl _ _) ?_)) | ((with_reducible refine ld_id ?_); first | (apply ld_hs hp; (focus ((repeat (first | exact Has.here | apply Has.there)); done)); exact rfl) | (refine ld_of (by assumption) ?_)) | ((with_reducible refine ldn_id ?_); first | (apply lda_hs hp; (focus ((repeat (first | exact Has.here | apply Has.there)); done)); exact rfl) | (apply ldn_hs hp; (focus ((repeat (first | exact Has.here | apply Has.there)); done)); exact rfl; exact rfl)) | ((with_reducible refine al_id ?_); first | (refine al_cel hp ?_; clear hp; intro bb w hp)) | ((with_reducible refine st_id ?_); first | (apply sta_hs hp; (focus ((repeat (first | exact Has.here | apply Has.there)); done)); exact rfl; exact rfl; clear hp; intro w hp; (try dsimp only [List.set] at hp)) | (apply st_hs hp; (focus ((repeat (first | exact Has.here | apply Has.there)); done)); exact rfl; exact rfl; clear hp; intro w hp; (try dsimp only [List.set] at hp))) | ((with_reducible refine gen_id ?_); first | (apply gen_build; exact rfl; exact rfl) | (apply gen_len; exact rfl; exact rfl; assumption) | (apply gen_min; exact rfl; exact rfl; exact rfl) | (apply gen_max; exact rfl; exact rfl; exact rfl) | (apply gen_ix; exact rfl; exact rfl; exact rfl; exact rfl; omega) | (apply gen_ixa; exact rfl; exact rfl; exact rfl; exact rfl; omega)) | ((with_reducible refine fk_id ?_); first | (refine fk_mk ?_ ?_)) | ((with_reducible refine cl_id ?_); first | ((refine cl_eq ((snone_any (h.keep0 hp.chg))) rfl rfl ?_; rintro e w ⟨rfl, hcc⟩; replace hp := hp.call0 hcc; refine ⟨_, rfl, ?_⟩)) | ((refine cl_eq ((hri hp.chg)) rfl rfl ?_; rintro e w ⟨rfl, hcc⟩; replace hp := hp.call0 hcc; refine ⟨_, rfl, ?_⟩))) | ((with_reducible refine rd_id ?_); first | (apply rd_len; exact rfl; exact rfl; assumption) | (apply rd_ix; exact rfl; exact rfl; exact rfl; exact rfl; omega))) <;> (conv => whnf)))
  exact ps_val (v' := i64 4) rfl ⟨rfl, hp.chg⟩
theorem spush_far {w0 : World} {b : Nat} {X : Snx} (h : SnAt w0 b X) {ht : UInt32} {B : Blk} {C : Nat} (hB : SlAt C w0 Id.c 32 B.tx) (hR : rightB B = true) (hb0 : X.bs.l ≠ []) (hbn : X.bs.l.length ≤ 100000) (hht : (ht.toNat : Int) ≠ X.low.toNat + (X.bs.l.length : Nat)) : Calls Try.prog 30 #[ptr b, u32 ht, B.v] w0 fun e w' => e = .returned (i64 1) ∧ Chg N0 w0 w' := by
  have hp := Hp.start (S := N0) w0
  have us := Try.underlying58
  have hb : ∀ b, N0 b → C ≤ b := fun _ hh => hh.elim
  have hri := fun {w : World} (hc : Chg N0 w0 w) => blkright_any (hB.keep hc hb)
  rw [hR] at hri
  have ht1 := ht.toNat_lt
  have ht2 := X.low.toNat_lt
  have hl0 : 0 < X.bs.l.length := List.length_pos_iff.2 hb0
  refine calls_x (args := [_, _, _]) tabOk Try.func30 Try.ntmps30 Try.results30 rfl (Nat.le_of_ble_eq_true rfl) ?_
  ((conv => whnf); repeat' ((first | ((with_reducible refine br_id ?_); first | (with_reducible (first | refine br_t ?_ | refine br_f ?_ | refine br_not ?_)) | ((with_reducible (first | refine br_dec (fun hx => ?_) (fun hx => ?_) | refine br_eq (fun hx => ?_) (fun hx => ?_) | refine br_ne (fun hx => ?_) (fun hx => ?_) | refine br_s (fun hx => ?_) (fun hx => ?_))) <;> (try (exfalso; first | omega | exact absurd hx (by assumption) | exact absurd (by assumption) hx)))) | ((with_reducible refine ar_id ?_); first | (refine ar_i64 (by omega) ?_) | (refine ar_u32 (by omega) ?_) | (refine ar_u64 (by omega) ?_) | (refine ar_u8 (by omega) ?_)) | ((with_reducible refine cn_id ?_); first | (refine cn rfl ?_) | (refine cn (by assumption) ?_) | (refine cn (by omega) ?_) | (refine cn (Chg.refl _ _) ?_)) | ((with_reducible refine ld_id ?_); first | ((refine ld_of ((h.keep0 hp.chg).cell rfl) ?_)) | (apply ld_hs hp; (focus ((repeat (first | exact Has.here | apply Has.there)); done)); exact rfl) | (refine ld_of (by assumption) ?_)) | ((with_reducible refine ldn_id ?_); first | (apply lda_hs hp; (focus ((repeat (first | exact Has.here | apply Has.there)); done)); exact rfl) | (apply ldn_hs hp; (focus ((repeat (first | exact Has.here | apply Has.there)); done)); exact rfl; exact rfl)) | ((with_reducible refine al_id ?_); first | (refine al_cel hp ?_; clear hp; intro bb w hp)) | ((with_reducible refine st_id ?_); first | (apply sta_hs hp; (focus ((repeat (first | exact Has.here | apply Has.there)); done)); exact rfl; exact rfl; clear hp; intro w hp; (try dsimp only [List.set] at hp)) | (apply st_hs hp; (focus ((repeat (first | exact Has.here | apply Has.there)); done)); exact rfl; exact rfl; clear hp; intro w hp; (try dsimp only [List.set] at hp))) | ((with_reducible refine gen_id ?_); first | (apply gen_build; exact rfl; exact rfl) | (apply gen_len; exact rfl; exact rfl; assumption) | (apply gen_min; exact rfl; exact rfl; exact rfl) | (apply gen_max; exact rfl; exact rfl; exact rfl) | (apply gen_ix; exact rfl; exact rfl; exact rfl; exact rfl; omega) | (apply gen_ixa; exact rfl; exact rfl; exact rfl; exact rfl; omega)) | ((with_reducible refine fk_id ?_); first | (refine fk_mk ?_ ?_)) | ((with_reducible refine cl_id ?_); first | ((refine cl_eq ((snone_any (h.keep0 hp.chg))) rfl rfl ?_; rintro e w ⟨rfl, hcc⟩; replace hp := hp.call0 hcc; refine ⟨_, rfl, ?_⟩)) | ((refine cl_eq ((hri hp.chg)) rfl rfl ?_; rintro e w ⟨rfl, hcc⟩; replace hp := hp.call0 hcc; refine ⟨_, rfl, ?_⟩))) | ((with_reducible refine rd_id ?_); first | (apply rd_len; exact rfl; exact rfl; assumption) | (apply rd_ix; exact rfl; exact rfl; exact rfl; exact rfl; omega))) <;> (conv => whnf)))
  refine dr_autos [] 1000 tabOk (by kernel_rfl) (by decide +kernel) ?_
  replace hp := hp.drew
  ((conv => whnf); repeat' ((first | ((with_reducible refine br_id ?_); first | (with_reducible (first | refine br_t ?_ | refine br_f ?_ | refine br_not ?_)) | ((with_reducible (first | refine br_dec (fun hx => ?_) (fun hx => ?_) | refine br_eq (fun hx => ?_) (fun hx => ?_) | refine br_ne (fun hx => ?_) (fun hx => ?_) | refine br_s (fun hx => ?_) (fun hx => ?_))) <;> (try (exfalso; first | omega | exact absurd hx (by assumption) | exact absurd (by assumption) hx)))) | ((with_reducible refine ar_id ?_); first | (refine ar_i64 (by omega) ?_) | (refine ar_u32 (by omega) ?_) | (refine ar_u64 (by omega) ?_) | (refine ar_u8 (by omega) ?_)) | ((with_reducible refine cn_id ?_); first | (refine cn rfl ?_) | (refine cn (by assumption) ?_) | (refine cn (by omega) ?_) | (refine cn (Chg.refl _ _) ?_)) | ((with_reducible refine ld_id ?_); first | ((refine ld_of ((h.keep0 hp.chg).cell rfl) ?_)) | (apply ld_hs hp; (focus ((repeat (first | exact Has.here | apply Has.there)); done)); exact rfl) | (refine ld_of (by assumption) ?_)) | ((with_reducible refine ldn_id ?_); first | (apply lda_hs hp; (focus ((repeat (first | exact Has.here | apply Has.there)); done)); exact rfl) | (apply ldn_hs hp; (focus ((repeat (first | exact Has.here | apply Has.there)); done)); exact rfl; exact rfl)) | ((with_reducible refine al_id ?_); first | (refine al_cel hp ?_; clear hp; intro bb w hp)) | ((with_reducible refine st_id ?_); first | (apply sta_hs hp; (focus ((repeat (first | exact Has.here | apply Has.there)); done)); exact rfl; exact rfl; clear hp; intro w hp; (try dsimp only [List.set] at hp)) | (apply st_hs hp; (focus ((repeat (first | exact Has.here | apply Has.there)); done)); exact rfl; exact rfl; clear hp; intro w hp; (try dsimp only [List.set] at hp))) | ((with_reducible refine gen_id ?_); first | (apply gen_build; exact rfl; exact rfl) | (apply gen_len; exact rfl; exact rfl; assumption) | (apply gen_min; exact rfl; exact rfl; exact rfl) | (apply gen_max; exact rfl; exact rfl; exact rfl) | (apply gen_ix; exact rfl; exact rfl; exact rfl; exact rfl; omega) | (apply gen_ixa; exact rfl; exact rfl; exact rfl; exact rfl; omega)) | ((with_reducible refine fk_id ?_); first | (refine fk_mk ?_ ?_)) | ((with_reducible refine rd_id ?_); first | ((refine rd_conv tabOk rfl rfl rfl rfl ?_)) | (apply rd_len; exact rfl; exact rfl; assumption) | (apply rd_ix; exact rfl; exact rfl; exact rfl; exact rfl; omega))) <;> (conv => whnf)))
  exact ps_val (v' := i64 1) rfl ⟨rfl, hp.chg⟩
end Go.Proofs.Ytdncnepedkkamaa
/- HintC: maps, copied entry by entry. No condition. -/
namespace Go.Proofs.Ytdncnepedkkamaa
set_option linter.unusedSimpArgs false
set_option linter.unusedVariables false
open Go.RowKit
set_option maxRecDepth 100000
set_option maxHeartbeats 2000000
section
variable {κ ν : Type} [DecidableEq κ]
abbrev abI (p : κ × Sl ν) : κ × List ν := (p.1, p.2.l)
theorem mput_freshI {μ : Type} {k : κ} {v : μ} {l : List (κ × μ)} (h : k ∉ l.map (·.1)) : mput l k v = l ++ [(k, v)] := by unfold mput; rw [if_neg h]
theorem idx_ab (l : List (κ × Sl ν)) (x : κ) : (idx l x).l = ((l.map abI).lookup x).getD [] := by
  unfold idx
  induction l with
  | nil => rfl
  | cons p l ih =>
    rw [List.map_cons, List.lookup_cons, List.lookup_cons]
    cases x == p.1
    · exact ih
    · rfl
theorem lookup_permI {μ : Type} {l l' : List (κ × μ)} (hp : l.Perm l') (hn : (l.map (·.1)).Nodup) (x : κ) : l.lookup x = l'.lookup x := by
  induction hp with
  | nil => rfl
  | cons p _ ih =>
    rw [List.map_cons, List.nodup_cons] at hn
    rw [List.lookup_cons, List.lookup_cons, ih hn.2]
  | swap p q l =>
    rw [List.map_cons, List.map_cons, List.nodup_cons] at hn
    have hne : q.1 ≠ p.1 := fun e => hn.1 (by rw [e]; simp)
    rw [List.lookup_cons, List.lookup_cons, List.lookup_cons, List.lookup_cons]
    by_cases h1 : x = q.1
    · subst h1
      have e1 : (q.1 == q.1) = true := by simp
      have e2 : (q.1 == p.1) = false := by simpa using hne
      rw [e1, e2]
    · have e1 : (x == q.1) = false := by simpa using h1
      rw [e1]
  | trans h1 _ ih1 ih2 => exact (ih1 hn).trans (ih2 ((h1.map _).nodup_iff.1 hn))
theorem idx_perm {l l2 : List (κ × Sl ν)} (hp : (l2.map abI).Perm (l.map abI)) (hn : (l.map (·.1)).Nodup) (x : κ) : (idx l2 x).l = (idx l x).l := by
  rw [idx_ab, idx_ab]
  rw [lookup_permI hp.symm (by rw [List.map_map]; exact hn) x]
theorem idx_get {l : List (κ × Sl ν)} (hn : (l.map (·.1)).Nodup) {i : Nat} {p : κ × Sl ν} (hi : l[i]? = some p) : idx l p.1 = p.2 := by
  unfold idx
  rw [lookup_of_get hn (a := p.1) (v := p.2) hi]
  rfl
end
end Go.Proofs.Ytdncnepedkkamaa
