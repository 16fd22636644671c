/- Shelf6: shelf.Drop, DropAll. -/
import Derived.Test.YtnmnbogdjlkmgaaShelf5
namespace Go.Proofs.Ytnmnbogdjlkmgaa
set_option linter.unusedSimpArgs false
set_option linter.unusedVariables false
open Go.RowKit
set_option maxRecDepth 100000
set_option maxHeartbeats 2000000

theorem lookup_mdel' {κ ν : Type} [DecidableEq κ] (l : List (κ × ν)) (k x : κ) : (mdel l k).lookup x = if x = k then none else l.lookup x := by
  unfold mdel
  induction l with
  | nil => simp
  | cons p l ih =>
    by_cases hp : p.1 = k
    · rw [List.filter_cons_of_neg (by simpa using hp), ih, List.lookup_cons]
      by_cases hx : x = k
      · rw [if_pos hx, if_pos hx]
      · rw [if_neg hx, if_neg hx]
        have : (x == p.1) = false := by simp only [beq_eq_false_iff_ne, ne_eq]; exact fun e => hx (e.trans hp)
        rw [this]
    · rw [List.filter_cons_of_pos (by simpa using hp), List.lookup_cons, List.lookup_cons, ih]
      by_cases hx : x = k
      · rw [if_pos hx, if_pos hx]
        have : (x == p.1) = false := by simp only [beq_eq_false_iff_ne, ne_eq]; exact fun e => hp (e.symm.trans hx)
        rw [this]
      · rw [if_neg hx, if_neg hx]
def dropK (W : List BlP) (k : Key) : List BlP := W.filter fun y => decide (y.key ≠ k)
theorem drop_none {W : List BlP} {k : Key} (h : byKey W k = none) : dropK W k = W := by
  unfold byKey at h
  rw [List.find?_eq_none] at h
  exact List.filter_eq_self.2 fun y hy => by simpa using h y hy
theorem drop_count {α κ : Type} [DecidableEq κ] (f : α → κ) (k : κ) : ∀ {l : List α}, (l.map f).Nodup → (∃ y ∈ l, f y = k) → (l.filter fun y => decide (f y ≠ k)).length + 1 = l.length
  | [], _, h => by obtain ⟨y, hy, _⟩ := h; cases hy
  | x :: l, hn, h => by
    rw [List.map_cons, List.nodup_cons] at hn
    by_cases hx : f x = k
    · have h1 : (l.filter fun y => decide (f y ≠ k)) = l := List.filter_eq_self.2 fun y hy => by
        simp only [ne_eq, decide_not, Bool.not_eq_eq_eq_not, Bool.not_true, decide_eq_false_iff_not]
        exact fun e => hn.1 (List.mem_map.2 ⟨y, hy, e.trans hx.symm⟩)
      rw [List.filter_cons_of_neg (by simpa using hx), h1, List.length_cons]
    · have h2 : ∃ y ∈ l, f y = k := by
        obtain ⟨y, hy, hk⟩ := h
        rcases List.mem_cons.1 hy with rfl | hy
        · exact absurd hk hx
        · exact ⟨y, hy, hk⟩
      rw [List.filter_cons_of_pos (by simpa using hx), List.length_cons, List.length_cons, drop_count f k hn.2 h2]
theorem drop_sum {k : Key} {y : BlP} : ∀ {W : List BlP}, (W.map (·.key)).Nodup → y ∈ W → y.key = k → ((dropK W k).map (·.bytes.length)).sum + y.bytes.length = (W.map (·.bytes.length)).sum
  | [], _, h, _ => by cases h
  | x :: W, hn, h, hk => by
    rw [List.map_cons, List.nodup_cons] at hn
    unfold dropK
    by_cases hx : x.key = k
    · have h1 : (W.filter fun y => decide (y.key ≠ k)) = W := List.filter_eq_self.2 fun y hy => by
        simp only [ne_eq, decide_not, Bool.not_eq_eq_eq_not, Bool.not_true, decide_eq_false_iff_not]
        exact fun e => hn.1 (List.mem_map.2 ⟨y, hy, e.trans hx.symm⟩)
      have hxy : y = x := by
        rcases List.mem_cons.1 h with e | hm
        · exact e
        · exact absurd (List.mem_map.2 ⟨y, hm, hk.trans hx.symm⟩) hn.1
      rw [List.filter_cons_of_neg (by simpa using hx), h1, List.map_cons, List.sum_cons, hxy]
      omega
    · have hm : y ∈ W := by
        rcases List.mem_cons.1 h with e | hm
        · subst e; exact absurd hk hx
        · exact hm
      have ih := drop_sum hn.2 hm hk
      unfold dropK at ih
      rw [List.filter_cons_of_pos (by simpa using hx), List.map_cons, List.map_cons, List.sum_cons, List.sum_cons]
      omega
theorem byKey_drop (W : List BlP) (k k' : Key) : byKey (dropK W k) k' = if k' = k then none else byKey W k' := by
  unfold byKey dropK
  rw [List.find?_filter]
  by_cases hk : k' = k
  · subst hk
    rw [if_pos rfl, List.find?_eq_none]
    intro y _
    simp
  · rw [if_neg hk]
    congr 1
    funext y
    by_cases hy : y.key = k'
    · simp [hy, hk]
    · simp [hy]
theorem erase_keys {L : List BlP} {k : Key} (hn : (L.map (·.key)).Nodup) : (L.map (·.key)).erase k = (L.filter fun y => decide (y.key ≠ k)).map (·.key) := by
  rw [hn.erase_eq_filter, List.filter_map]
  congr 1
  apply List.filter_congr
  intro y _
  show (y.key != k) = decide (y.key ≠ k)
  by_cases h : y.key = k
  · simp [h]
  · simp [h]
theorem filter_swap {W : List BlP} (p q : BlP → Bool) : (W.filter p).filter q = (W.filter q).filter p := by
  rw [List.filter_filter, List.filter_filter]
  congr 1
  funext x
  exact Bool.and_comm _ _
theorem ShI.drop {g : Shf} {W : List BlP} (hI : ShI g W) {y : BlP} (hy : y ∈ W) {l' : List (Hint × Sl Key)} {m' : List (UInt32 × Sl Key)}
    (hl : ∀ x, (idx l' x).l = if x = y.hint then (idx g.lh y.hint).l.erase y.key else (idx g.lh x).l) (hm : ∀ x, (idx m' x).l = if x = y.key.ses then (idx g.lm y.key.ses).l.erase y.key else (idx g.lm x).l) (hnd : (g.la.map (·.1)).Nodup) :
    ShI { g with lh := l', nh := g.nh - 1, lm := m', nm := g.nm - 1, la := mdel g.la y.key, bytes := g.bytes - (y.bytes.length : Int) } (dropK W y.key) where
  nodup := hI.nodup.sublist (List.filter_sublist.map _)
  hints h := by
    show (idx l' h).l = _
    rw [hl]
    by_cases hh : h = y.hint
    · subst hh
      rw [if_pos rfl, hI.hints, erase_keys (hI.nodup.sublist (List.filter_sublist.map _))]
      unfold dropK
      rw [filter_swap]
    · rw [if_neg hh, hI.hints]
      unfold dropK
      rw [filter_swap]
      congr 1
      refine (List.filter_eq_self.2 fun z hz => ?_).symm
      obtain ⟨hz1, hz2⟩ := List.mem_filter.1 hz
      simp only [decide_eq_true_eq] at hz2
      simp only [ne_eq, decide_not, Bool.not_eq_eq_eq_not, Bool.not_true, decide_eq_false_iff_not]
      intro e
      have h1 := byKey_some hI.nodup hz1 e
      rw [byKey_some hI.nodup hy rfl] at h1
      cases h1
      exact hh hz2.symm
  mine s := by
    show (idx m' s).l = _
    rw [hm]
    by_cases hh : s = y.key.ses
    · subst hh
      rw [if_pos rfl, hI.mine, erase_keys (hI.nodup.sublist (List.filter_sublist.map _))]
      unfold dropK
      rw [filter_swap]
    · rw [if_neg hh, hI.mine]
      unfold dropK
      rw [filter_swap]
      congr 1
      refine (List.filter_eq_self.2 fun z hz => ?_).symm
      obtain ⟨hz1, hz2⟩ := List.mem_filter.1 hz
      simp only [decide_eq_true_eq] at hz2
      simp only [ne_eq, decide_not, Bool.not_eq_eq_eq_not, Bool.not_true, decide_eq_false_iff_not]
      intro e
      exact hh (by rw [← hz2, e])
  all k := by
    show (mlk (mdel g.la y.key) k).map _ = _
    unfold mlk
    rw [lookup_mdel', byKey_drop]
    by_cases hk : k = y.key
    · rw [if_pos hk, if_pos hk]; rfl
    · rw [if_neg hk, if_neg hk]
      exact hI.all k
  len := by
    have h1 := drop_count (fun z : BlP => z.key) y.key hI.nodup ⟨y, hy, rfl⟩
    have h2 : ∃ p ∈ g.la, p.1 = y.key := by
      have h3 := hI.all y.key
      rw [byKey_some hI.nodup hy rfl] at h3
      cases hl : mlk g.la y.key with
      | none => rw [hl] at h3; cases h3
      | some en => exact ⟨_, hg_lookup (by unfold mlk at hl; exact hl), rfl⟩
    have h3 := drop_count (fun p : Key × Ent => p.1) y.key hnd h2
    have h4 := hI.len
    show (mdel g.la y.key).length = (dropK W y.key).length
    unfold mdel dropK
    omega
  nh := by
    have h1 := drop_count (fun z : BlP => z.key) y.key hI.nodup ⟨y, hy, rfl⟩
    have h2 := hI.nh
    show g.nh - 1 = ((dropK W y.key).length : Int)
    unfold dropK
    omega
  nm := by
    have h1 := drop_count (fun z : BlP => z.key) y.key hI.nodup ⟨y, hy, rfl⟩
    have h2 := hI.nm
    show g.nm - 1 = ((dropK W y.key).length : Int)
    unfold dropK
    omega
  bytes := by
    have h1 := drop_sum hI.nodup hy rfl
    have h2 := hI.bytes
    show g.bytes - _ = (((dropK W y.key).map (·.bytes.length)).sum : Nat)
    omega
  data z hz := hI.data z (List.mem_filter.1 hz).1
  many := Nat.le_trans (List.length_filter_le _ _) hI.many
  next := hI.next
  ord := by
    obtain ⟨pl, h1, h2, h3⟩ := hI.ord
    refine ⟨pl, fun k e he => ?_, h2.sublist List.filter_sublist, fun z hz => h3 z (List.mem_filter.1 hz).1⟩
    have he : (mdel g.la y.key).lookup k = some e := he
    rw [lookup_mdel'] at he
    by_cases hk : k = y.key
    · rw [if_pos hk] at he
      cases he
    · rw [if_neg hk] at he
      exact h1 k e he
theorem shdrop_any {w0 : World} {b : Nat} {g : Shf} {W : List BlP} (h : (star (shRs b g)).ok w0) (hI : ShI g W) (k : Key) : Calls Try.prog 16 #[ptr b, k.v] w0 fun e w' =>
    ∃ g', e = .returned (.bool (byKey W k).isSome) ∧ ShI g' (dropK W k) ∧ g'.next = g.next ∧ Mut (star (shRs b g)) (star (shRs b g')) w0 w' := by
  have hp := Hp.open h
  have u2 := Try.underlying23
  have hsA := shAt h
  have hnd := hsA.map.nodup
  have hlh := (idx_le hI).1
  have hlm := (idx_le hI).2
  have hnh := hI.nh
  have hnm := hI.nm
  have hmany := hI.many
  have hbl := hI.bytes
  have hbs := bytes_le W hI.data
  cases hk : byKey W k with
  | none =>
    rw [drop_none hk]
    refine calls_x (args := [_, _]) tabOk Try.func16 Try.ntmps16 Try.results16 rfl (Nat.le_of_ble_eq_true rfl) ?_
    ((conv => whnf); repeat' ((first | ((with_reducible refine br_id ?_); first | (with_reducible refine br_t ?_) | (with_reducible refine br_f ?_) | (with_reducible refine br_not ?_) | ((with_reducible refine br_dec (fun hx => ?_) (fun hx => ?_)) <;> (try (exfalso; first | omega | exact absurd hx (by assumption) | exact absurd (by assumption) hx))) | ((with_reducible refine br_eq (fun hx => ?_) (fun hx => ?_)) <;> (try (exfalso; first | omega | exact absurd hx (by assumption) | exact absurd (by assumption) hx))) | ((with_reducible refine br_ne (fun hx => ?_) (fun hx => ?_)) <;> (try (exfalso; first | omega | exact absurd hx (by assumption) | exact absurd (by assumption) hx))) | ((with_reducible refine br_s (fun hx => ?_) (fun hx => ?_)) <;> (try (exfalso; first | omega | exact absurd hx (by assumption) | exact absurd (by assumption) hx)))) | ((with_reducible refine ar_id ?_); first | (refine ar_i64 (by omega) ?_) | (refine ar_u32 (by omega) ?_) | (refine ar_u64 (by omega) ?_) | (refine ar_u8 (by omega) ?_)) | ((with_reducible refine cn_id ?_); first | (refine cn rfl ?_) | (refine cn (by assumption) ?_) | (refine cn (by omega) ?_) | (refine cn (Chg.refl _ _) ?_)) | ((with_reducible refine ld_id ?_); first | (apply ld_hs hp; (focus ((repeat (first | exact Has.here | apply Has.there)); done)); exact rfl) | (refine ld_of (by assumption) ?_)) | ((with_reducible refine ldn_id ?_); first | (apply lda_hs hp; (focus ((repeat (first | exact Has.here | apply Has.there)); done)); exact rfl) | (apply ldn_hs hp; (focus ((repeat (first | exact Has.here | apply Has.there)); done)); exact rfl; exact rfl)) | ((with_reducible refine al_id ?_); first | (refine al_cel hp ?_; clear hp; intro bb w hp)) | ((with_reducible refine st_id ?_); first | (apply sta_hs hp; (focus ((repeat (first | exact Has.here | apply Has.there)); done)); exact rfl; exact rfl; clear hp; intro w hp; (try dsimp only [List.set] at hp)) | (apply st_hs hp; (focus ((repeat (first | exact Has.here | apply Has.there)); done)); exact rfl; exact rfl; clear hp; intro w hp; (try dsimp only [List.set] at hp))) | ((with_reducible refine gen_id ?_); first | (apply gen_build; exact rfl; exact rfl) | (apply gen_len; exact rfl; exact rfl; assumption) | (apply gen_min; exact rfl; exact rfl; exact rfl) | (apply gen_max; exact rfl; exact rfl; exact rfl) | (apply gen_ix; exact rfl; exact rfl; exact rfl; exact rfl; omega) | (apply gen_ixa; exact rfl; exact rfl; exact rfl; exact rfl; omega)) | ((with_reducible refine dr_id ?_); first | (refine dr_auto tabOk (by kernel_rfl) (by decide +kernel) ?_; (try replace hp := hp.drew)) | (refine dr_autog tabOk (by kernel_rfl) (by decide +kernel) ?_; (try replace hp := hp.drew)) | (refine dr_autot tabOk (by kernel_rfl) (by decide +kernel) ?_; (try replace hp := hp.drew))) | ((with_reducible refine fk_id ?_); first | (refine fk_mk ?_ ?_)) | ((with_reducible refine bg_id ?_); first | ((refine bg_hs hp 0 rfl ?_); clear hp; intro w hp; (try dsimp only [List.set] at hp)) | ((refine bg_hs hp 1 rfl ?_); clear hp; intro w hp; (try dsimp only [List.set] at hp)) | ((refine bg_hs hp 2 rfl ?_); clear hp; intro w hp; (try dsimp only [List.set] at hp)) | ((refine bg_hs hp 3 rfl ?_); clear hp; intro w hp; (try dsimp only [List.set] at hp)) | ((refine bg_hs hp 4 rfl ?_); clear hp; intro w hp; (try dsimp only [List.set] at hp)) | ((refine bg_hs hp 5 rfl ?_); clear hp; intro w hp; (try dsimp only [List.set] at hp))) | ((with_reducible refine td_id ?_); first | ((refine td_hs hp 0 rfl ?_); clear hp; intro w hp; (try dsimp only [List.set] at hp)) | ((refine td_hs hp 1 rfl ?_); clear hp; intro w hp; (try dsimp only [List.set] at hp)) | ((refine td_hs hp 2 rfl ?_); clear hp; intro w hp; (try dsimp only [List.set] at hp)) | ((refine td_hs hp 3 rfl ?_); clear hp; intro w hp; (try dsimp only [List.set] at hp)) | ((refine td_hs hp 4 rfl ?_); clear hp; intro w hp; (try dsimp only [List.set] at hp)) | ((refine td_hs hp 5 rfl ?_); clear hp; intro w hp; (try dsimp only [List.set] at hp)) | ((refine td_hs hp 6 rfl ?_); clear hp; intro w hp; (try dsimp only [List.set] at hp)) | ((refine td_hs hp 7 rfl ?_); clear hp; intro w hp; (try dsimp only [List.set] at hp))) | ((with_reducible refine rd_id ?_); first | (apply rd_len; exact rfl; exact rfl; assumption) | (apply rd_ix; exact rfl; exact rfl; exact rfl; exact rfl; omega))) <;> (conv => whnf)))
    refine cl_eq (shget_any (shAt (hp.tail.fold1.get (j := 0) rfl)) hI k) rfl rfl ?_
    rintro e w ⟨x, -, rfl, hmd⟩
    rw [hk, show (none : Option BlP).isSome = false from rfl]
    replace hp := hp.add hmd
    clear hmd
    refine ⟨_, rfl, ?_⟩
    ((conv => whnf); repeat' ((first | ((with_reducible refine br_id ?_); first | (with_reducible refine br_t ?_) | (with_reducible refine br_f ?_) | (with_reducible refine br_not ?_) | ((with_reducible refine br_dec (fun hx => ?_) (fun hx => ?_)) <;> (try (exfalso; first | omega | exact absurd hx (by assumption) | exact absurd (by assumption) hx))) | ((with_reducible refine br_eq (fun hx => ?_) (fun hx => ?_)) <;> (try (exfalso; first | omega | exact absurd hx (by assumption) | exact absurd (by assumption) hx))) | ((with_reducible refine br_ne (fun hx => ?_) (fun hx => ?_)) <;> (try (exfalso; first | omega | exact absurd hx (by assumption) | exact absurd (by assumption) hx))) | ((with_reducible refine br_s (fun hx => ?_) (fun hx => ?_)) <;> (try (exfalso; first | omega | exact absurd hx (by assumption) | exact absurd (by assumption) hx)))) | ((with_reducible refine ar_id ?_); first | (refine ar_i64 (by omega) ?_) | (refine ar_u32 (by omega) ?_) | (refine ar_u64 (by omega) ?_) | (refine ar_u8 (by omega) ?_)) | ((with_reducible refine cn_id ?_); first | (refine cn rfl ?_) | (refine cn (by assumption) ?_) | (refine cn (by omega) ?_) | (refine cn (Chg.refl _ _) ?_)) | ((with_reducible refine ld_id ?_); first | (apply ld_hs hp; (focus ((repeat (first | exact Has.here | apply Has.there)); done)); exact rfl) | (refine ld_of (by assumption) ?_)) | ((with_reducible refine ldn_id ?_); first | (apply lda_hs hp; (focus ((repeat (first | exact Has.here | apply Has.there)); done)); exact rfl) | (apply ldn_hs hp; (focus ((repeat (first | exact Has.here | apply Has.there)); done)); exact rfl; exact rfl)) | ((with_reducible refine al_id ?_); first | (refine al_cel hp ?_; clear hp; intro bb w hp)) | ((with_reducible refine st_id ?_); first | (apply sta_hs hp; (focus ((repeat (first | exact Has.here | apply Has.there)); done)); exact rfl; exact rfl; clear hp; intro w hp; (try dsimp only [List.set] at hp)) | (apply st_hs hp; (focus ((repeat (first | exact Has.here | apply Has.there)); done)); exact rfl; exact rfl; clear hp; intro w hp; (try dsimp only [List.set] at hp))) | ((with_reducible refine gen_id ?_); first | (apply gen_build; exact rfl; exact rfl) | (apply gen_len; exact rfl; exact rfl; assumption) | (apply gen_min; exact rfl; exact rfl; exact rfl) | (apply gen_max; exact rfl; exact rfl; exact rfl) | (apply gen_ix; exact rfl; exact rfl; exact rfl; exact rfl; omega) | (apply gen_ixa; exact rfl; exact rfl; exact rfl; exact rfl; omega)) | ((with_reducible refine dr_id ?_); first | (refine dr_auto tabOk (by kernel_rfl) (by decide +kernel) ?_; (try replace hp := hp.drew)) | (refine dr_autog tabOk (by kernel_rfl) (by decide +kernel) ?_; (try replace hp := hp.drew)) | (refine dr_autot tabOk (by kernel_rfl) (by decide +kernel) ?_; (try replace hp := hp.drew))) | ((with_reducible refine fk_id ?_); first | (refine fk_mk ?_ ?_)) | ((with_reducible refine bg_id ?_); first | ((refine bg_hs hp 0 rfl ?_); clear hp; intro w hp; (try dsimp only [List.set] at hp)) | ((refine bg_hs hp 1 rfl ?_); clear hp; intro w hp; (try dsimp only [List.set] at hp)) | ((refine bg_hs hp 2 rfl ?_); clear hp; intro w hp; (try dsimp only [List.set] at hp)) | ((refine bg_hs hp 3 rfl ?_); clear hp; intro w hp; (try dsimp only [List.set] at hp)) | ((refine bg_hs hp 4 rfl ?_); clear hp; intro w hp; (try dsimp only [List.set] at hp)) | ((refine bg_hs hp 5 rfl ?_); clear hp; intro w hp; (try dsimp only [List.set] at hp))) | ((with_reducible refine td_id ?_); first | ((refine td_hs hp 0 rfl ?_); clear hp; intro w hp; (try dsimp only [List.set] at hp)) | ((refine td_hs hp 1 rfl ?_); clear hp; intro w hp; (try dsimp only [List.set] at hp)) | ((refine td_hs hp 2 rfl ?_); clear hp; intro w hp; (try dsimp only [List.set] at hp)) | ((refine td_hs hp 3 rfl ?_); clear hp; intro w hp; (try dsimp only [List.set] at hp)) | ((refine td_hs hp 4 rfl ?_); clear hp; intro w hp; (try dsimp only [List.set] at hp)) | ((refine td_hs hp 5 rfl ?_); clear hp; intro w hp; (try dsimp only [List.set] at hp)) | ((refine td_hs hp 6 rfl ?_); clear hp; intro w hp; (try dsimp only [List.set] at hp)) | ((refine td_hs hp 7 rfl ?_); clear hp; intro w hp; (try dsimp only [List.set] at hp))) | ((with_reducible refine rd_id ?_); first | (apply rd_len; exact rfl; exact rfl; assumption) | (apply rd_ix; exact rfl; exact rfl; exact rfl; exact rfl; omega))) <;> (conv => whnf)))
    exact ps_val (v' := .bool false) rfl ⟨g, rfl, hI, rfl, hp.tail.tail.tail.shut (.refl _)⟩
  | some y =>
    obtain ⟨hyW, hyk⟩ := byKey_mem hk
    subst hyk
    refine calls_x (args := [_, _]) tabOk Try.func16 Try.ntmps16 Try.results16 rfl (Nat.le_of_ble_eq_true rfl) ?_
    ((conv => whnf); repeat' ((first | ((with_reducible refine br_id ?_); first | (with_reducible refine br_t ?_) | (with_reducible refine br_f ?_) | (with_reducible refine br_not ?_) | ((with_reducible refine br_dec (fun hx => ?_) (fun hx => ?_)) <;> (try (exfalso; first | omega | exact absurd hx (by assumption) | exact absurd (by assumption) hx))) | ((with_reducible refine br_eq (fun hx => ?_) (fun hx => ?_)) <;> (try (exfalso; first | omega | exact absurd hx (by assumption) | exact absurd (by assumption) hx))) | ((with_reducible refine br_ne (fun hx => ?_) (fun hx => ?_)) <;> (try (exfalso; first | omega | exact absurd hx (by assumption) | exact absurd (by assumption) hx))) | ((with_reducible refine br_s (fun hx => ?_) (fun hx => ?_)) <;> (try (exfalso; first | omega | exact absurd hx (by assumption) | exact absurd (by assumption) hx)))) | ((with_reducible refine ar_id ?_); first | (refine ar_i64 (by omega) ?_) | (refine ar_u32 (by omega) ?_) | (refine ar_u64 (by omega) ?_) | (refine ar_u8 (by omega) ?_)) | ((with_reducible refine cn_id ?_); first | (refine cn rfl ?_) | (refine cn (by assumption) ?_) | (refine cn (by omega) ?_) | (refine cn (Chg.refl _ _) ?_)) | ((with_reducible refine ld_id ?_); first | (apply ld_hs hp; (focus ((repeat (first | exact Has.here | apply Has.there)); done)); exact rfl) | (refine ld_of (by assumption) ?_)) | ((with_reducible refine ldn_id ?_); first | (apply lda_hs hp; (focus ((repeat (first | exact Has.here | apply Has.there)); done)); exact rfl) | (apply ldn_hs hp; (focus ((repeat (first | exact Has.here | apply Has.there)); done)); exact rfl; exact rfl)) | ((with_reducible refine al_id ?_); first | (refine al_cel hp ?_; clear hp; intro bb w hp)) | ((with_reducible refine st_id ?_); first | (apply sta_hs hp; (focus ((repeat (first | exact Has.here | apply Has.there)); done)); exact rfl; exact rfl; clear hp; intro w hp; (try dsimp only [List.set] at hp)) | (apply st_hs hp; (focus ((repeat (first | exact Has.here | apply Has.there)); done)); exact rfl; exact rfl; clear hp; intro w hp; (try dsimp only [List.set] at hp))) | ((with_reducible refine gen_id ?_); first | (apply gen_build; exact rfl; exact rfl) | (apply gen_len; exact rfl; exact rfl; assumption) | (apply gen_min; exact rfl; exact rfl; exact rfl) | (apply gen_max; exact rfl; exact rfl; exact rfl) | (apply gen_ix; exact rfl; exact rfl; exact rfl; exact rfl; omega) | (apply gen_ixa; exact rfl; exact rfl; exact rfl; exact rfl; omega)) | ((with_reducible refine dr_id ?_); first | (refine dr_auto tabOk (by kernel_rfl) (by decide +kernel) ?_; (try replace hp := hp.drew)) | (refine dr_autog tabOk (by kernel_rfl) (by decide +kernel) ?_; (try replace hp := hp.drew)) | (refine dr_autot tabOk (by kernel_rfl) (by decide +kernel) ?_; (try replace hp := hp.drew))) | ((with_reducible refine fk_id ?_); first | (refine fk_mk ?_ ?_)) | ((with_reducible refine bg_id ?_); first | ((refine bg_hs hp 0 rfl ?_); clear hp; intro w hp; (try dsimp only [List.set] at hp)) | ((refine bg_hs hp 1 rfl ?_); clear hp; intro w hp; (try dsimp only [List.set] at hp)) | ((refine bg_hs hp 2 rfl ?_); clear hp; intro w hp; (try dsimp only [List.set] at hp)) | ((refine bg_hs hp 3 rfl ?_); clear hp; intro w hp; (try dsimp only [List.set] at hp)) | ((refine bg_hs hp 4 rfl ?_); clear hp; intro w hp; (try dsimp only [List.set] at hp)) | ((refine bg_hs hp 5 rfl ?_); clear hp; intro w hp; (try dsimp only [List.set] at hp))) | ((with_reducible refine td_id ?_); first | ((refine td_hs hp 0 rfl ?_); clear hp; intro w hp; (try dsimp only [List.set] at hp)) | ((refine td_hs hp 1 rfl ?_); clear hp; intro w hp; (try dsimp only [List.set] at hp)) | ((refine td_hs hp 2 rfl ?_); clear hp; intro w hp; (try dsimp only [List.set] at hp)) | ((refine td_hs hp 3 rfl ?_); clear hp; intro w hp; (try dsimp only [List.set] at hp)) | ((refine td_hs hp 4 rfl ?_); clear hp; intro w hp; (try dsimp only [List.set] at hp)) | ((refine td_hs hp 5 rfl ?_); clear hp; intro w hp; (try dsimp only [List.set] at hp)) | ((refine td_hs hp 6 rfl ?_); clear hp; intro w hp; (try dsimp only [List.set] at hp)) | ((refine td_hs hp 7 rfl ?_); clear hp; intro w hp; (try dsimp only [List.set] at hp))) | ((with_reducible refine rd_id ?_); first | (apply rd_len; exact rfl; exact rfl; assumption) | (apply rd_ix; exact rfl; exact rfl; exact rfl; exact rfl; omega))) <;> (conv => whnf)))
    refine cl_eq (shget_any (shAt (hp.tail.fold1.get (j := 0) rfl)) hI y.key) rfl rfl ?_
    rintro e w ⟨x, hxy, rfl, hmd⟩
    have hxp := hxy y hk
    rw [hk, show (some y).isSome = true from rfl]
    replace hp := hp.add hmd
    clear hmd
    refine ⟨_, rfl, ?_⟩
    have hxk : x.hint = y.hint := by rw [← hxp]; rfl
    have hxd : (x.data.l.length : Int) = (y.bytes.length : Int) := by rw [← hxp]; rfl
    have hyl := hI.data y hyW
    ((conv => whnf); repeat' ((first | ((with_reducible refine br_id ?_); first | (with_reducible refine br_t ?_) | (with_reducible refine br_f ?_) | (with_reducible refine br_not ?_) | ((with_reducible refine br_dec (fun hx => ?_) (fun hx => ?_)) <;> (try (exfalso; first | omega | exact absurd hx (by assumption) | exact absurd (by assumption) hx))) | ((with_reducible refine br_eq (fun hx => ?_) (fun hx => ?_)) <;> (try (exfalso; first | omega | exact absurd hx (by assumption) | exact absurd (by assumption) hx))) | ((with_reducible refine br_ne (fun hx => ?_) (fun hx => ?_)) <;> (try (exfalso; first | omega | exact absurd hx (by assumption) | exact absurd (by assumption) hx))) | ((with_reducible refine br_s (fun hx => ?_) (fun hx => ?_)) <;> (try (exfalso; first | omega | exact absurd hx (by assumption) | exact absurd (by assumption) hx)))) | ((with_reducible refine ar_id ?_); first | (refine ar_i64 (by omega) ?_) | (refine ar_u32 (by omega) ?_) | (refine ar_u64 (by omega) ?_) | (refine ar_u8 (by omega) ?_)) | ((with_reducible refine cn_id ?_); first | (refine cn rfl ?_) | (refine cn (by assumption) ?_) | (refine cn (by omega) ?_) | (refine cn (Chg.refl _ _) ?_)) | ((with_reducible refine ld_id ?_); first | (apply ld_hs hp; (focus ((repeat (first | exact Has.here | apply Has.there)); done)); exact rfl) | (refine ld_of (by assumption) ?_)) | ((with_reducible refine ldn_id ?_); first | (apply lda_hs hp; (focus ((repeat (first | exact Has.here | apply Has.there)); done)); exact rfl) | (apply ldn_hs hp; (focus ((repeat (first | exact Has.here | apply Has.there)); done)); exact rfl; exact rfl)) | ((with_reducible refine al_id ?_); first | (refine al_cel hp ?_; clear hp; intro bb w hp)) | ((with_reducible refine st_id ?_); first | (apply sta_hs hp; (focus ((repeat (first | exact Has.here | apply Has.there)); done)); exact rfl; exact rfl; clear hp; intro w hp; (try dsimp only [List.set] at hp)) | (apply st_hs hp; (focus ((repeat (first | exact Has.here | apply Has.there)); done)); exact rfl; exact rfl; clear hp; intro w hp; (try dsimp only [List.set] at hp))) | ((with_reducible refine gen_id ?_); first | (apply gen_build; exact rfl; exact rfl) | (apply gen_len; exact rfl; exact rfl; assumption) | (apply gen_min; exact rfl; exact rfl; exact rfl) | (apply gen_max; exact rfl; exact rfl; exact rfl) | (apply gen_ix; exact rfl; exact rfl; exact rfl; exact rfl; omega) | (apply gen_ixa; exact rfl; exact rfl; exact rfl; exact rfl; omega)) | ((with_reducible refine dr_id ?_); first | (refine dr_auto tabOk (by kernel_rfl) (by decide +kernel) ?_; (try replace hp := hp.drew)) | (refine dr_autog tabOk (by kernel_rfl) (by decide +kernel) ?_; (try replace hp := hp.drew)) | (refine dr_autot tabOk (by kernel_rfl) (by decide +kernel) ?_; (try replace hp := hp.drew))) | ((with_reducible refine fk_id ?_); first | (refine fk_mk ?_ ?_)) | ((with_reducible refine bg_id ?_); first | ((refine bg_hs hp 0 rfl ?_); clear hp; intro w hp; (try dsimp only [List.set] at hp)) | ((refine bg_hs hp 1 rfl ?_); clear hp; intro w hp; (try dsimp only [List.set] at hp)) | ((refine bg_hs hp 2 rfl ?_); clear hp; intro w hp; (try dsimp only [List.set] at hp)) | ((refine bg_hs hp 3 rfl ?_); clear hp; intro w hp; (try dsimp only [List.set] at hp)) | ((refine bg_hs hp 4 rfl ?_); clear hp; intro w hp; (try dsimp only [List.set] at hp)) | ((refine bg_hs hp 5 rfl ?_); clear hp; intro w hp; (try dsimp only [List.set] at hp))) | ((with_reducible refine td_id ?_); first | ((refine td_hs hp 0 rfl ?_); clear hp; intro w hp; (try dsimp only [List.set] at hp)) | ((refine td_hs hp 1 rfl ?_); clear hp; intro w hp; (try dsimp only [List.set] at hp)) | ((refine td_hs hp 2 rfl ?_); clear hp; intro w hp; (try dsimp only [List.set] at hp)) | ((refine td_hs hp 3 rfl ?_); clear hp; intro w hp; (try dsimp only [List.set] at hp)) | ((refine td_hs hp 4 rfl ?_); clear hp; intro w hp; (try dsimp only [List.set] at hp)) | ((refine td_hs hp 5 rfl ?_); clear hp; intro w hp; (try dsimp only [List.set] at hp)) | ((refine td_hs hp 6 rfl ?_); clear hp; intro w hp; (try dsimp only [List.set] at hp)) | ((refine td_hs hp 7 rfl ?_); clear hp; intro w hp; (try dsimp only [List.set] at hp))) | ((with_reducible refine rd_id ?_); first | (apply rd_len; exact rfl; exact rfl; assumption) | (apply rd_ix; exact rfl; exact rfl; exact rfl; exact rfl; omega))) <;> (conv => whnf)))
    have hin1 : y.key ∈ (idx g.lh x.hint).l := (in_hint hI x.hint y.key).2 ⟨y, hyW, hxk.symm, rfl⟩
    refine cl_eq (istrikeHK (hp.get (j := 4) rfl) x.hint y.key (by have := hlh x.hint; omega) (by omega)) rfl rfl ?_
    rintro e w (⟨hno, -⟩ | ⟨-, rfl, l', hl', hmt⟩)
    · exact absurd hin1 hno
    replace hp := hp.via (j := 4) rfl hmt
    clear hmt
    dsimp only [List.set] at hp
    refine ⟨_, rfl, ?_⟩
    rw [hxk] at hl'
    ((conv => whnf); repeat' ((first | ((with_reducible refine br_id ?_); first | (with_reducible refine br_t ?_) | (with_reducible refine br_f ?_) | (with_reducible refine br_not ?_) | ((with_reducible refine br_dec (fun hx => ?_) (fun hx => ?_)) <;> (try (exfalso; first | omega | exact absurd hx (by assumption) | exact absurd (by assumption) hx))) | ((with_reducible refine br_eq (fun hx => ?_) (fun hx => ?_)) <;> (try (exfalso; first | omega | exact absurd hx (by assumption) | exact absurd (by assumption) hx))) | ((with_reducible refine br_ne (fun hx => ?_) (fun hx => ?_)) <;> (try (exfalso; first | omega | exact absurd hx (by assumption) | exact absurd (by assumption) hx))) | ((with_reducible refine br_s (fun hx => ?_) (fun hx => ?_)) <;> (try (exfalso; first | omega | exact absurd hx (by assumption) | exact absurd (by assumption) hx)))) | ((with_reducible refine ar_id ?_); first | (refine ar_i64 (by omega) ?_) | (refine ar_u32 (by omega) ?_) | (refine ar_u64 (by omega) ?_) | (refine ar_u8 (by omega) ?_)) | ((with_reducible refine cn_id ?_); first | (refine cn rfl ?_) | (refine cn (by assumption) ?_) | (refine cn (by omega) ?_) | (refine cn (Chg.refl _ _) ?_)) | ((with_reducible refine ld_id ?_); first | (apply ld_hs hp; (focus ((repeat (first | exact Has.here | apply Has.there)); done)); exact rfl) | (refine ld_of (by assumption) ?_)) | ((with_reducible refine ldn_id ?_); first | (apply lda_hs hp; (focus ((repeat (first | exact Has.here | apply Has.there)); done)); exact rfl) | (apply ldn_hs hp; (focus ((repeat (first | exact Has.here | apply Has.there)); done)); exact rfl; exact rfl)) | ((with_reducible refine al_id ?_); first | (refine al_cel hp ?_; clear hp; intro bb w hp)) | ((with_reducible refine st_id ?_); first | (apply sta_hs hp; (focus ((repeat (first | exact Has.here | apply Has.there)); done)); exact rfl; exact rfl; clear hp; intro w hp; (try dsimp only [List.set] at hp)) | (apply st_hs hp; (focus ((repeat (first | exact Has.here | apply Has.there)); done)); exact rfl; exact rfl; clear hp; intro w hp; (try dsimp only [List.set] at hp))) | ((with_reducible refine gen_id ?_); first | (apply gen_build; exact rfl; exact rfl) | (apply gen_len; exact rfl; exact rfl; assumption) | (apply gen_min; exact rfl; exact rfl; exact rfl) | (apply gen_max; exact rfl; exact rfl; exact rfl) | (apply gen_ix; exact rfl; exact rfl; exact rfl; exact rfl; omega) | (apply gen_ixa; exact rfl; exact rfl; exact rfl; exact rfl; omega)) | ((with_reducible refine dr_id ?_); first | (refine dr_auto tabOk (by kernel_rfl) (by decide +kernel) ?_; (try replace hp := hp.drew)) | (refine dr_autog tabOk (by kernel_rfl) (by decide +kernel) ?_; (try replace hp := hp.drew)) | (refine dr_autot tabOk (by kernel_rfl) (by decide +kernel) ?_; (try replace hp := hp.drew))) | ((with_reducible refine fk_id ?_); first | (refine fk_mk ?_ ?_)) | ((with_reducible refine bg_id ?_); first | ((refine bg_hs hp 0 rfl ?_); clear hp; intro w hp; (try dsimp only [List.set] at hp)) | ((refine bg_hs hp 1 rfl ?_); clear hp; intro w hp; (try dsimp only [List.set] at hp)) | ((refine bg_hs hp 2 rfl ?_); clear hp; intro w hp; (try dsimp only [List.set] at hp)) | ((refine bg_hs hp 3 rfl ?_); clear hp; intro w hp; (try dsimp only [List.set] at hp)) | ((refine bg_hs hp 4 rfl ?_); clear hp; intro w hp; (try dsimp only [List.set] at hp)) | ((refine bg_hs hp 5 rfl ?_); clear hp; intro w hp; (try dsimp only [List.set] at hp))) | ((with_reducible refine td_id ?_); first | ((refine td_hs hp 0 rfl ?_); clear hp; intro w hp; (try dsimp only [List.set] at hp)) | ((refine td_hs hp 1 rfl ?_); clear hp; intro w hp; (try dsimp only [List.set] at hp)) | ((refine td_hs hp 2 rfl ?_); clear hp; intro w hp; (try dsimp only [List.set] at hp)) | ((refine td_hs hp 3 rfl ?_); clear hp; intro w hp; (try dsimp only [List.set] at hp)) | ((refine td_hs hp 4 rfl ?_); clear hp; intro w hp; (try dsimp only [List.set] at hp)) | ((refine td_hs hp 5 rfl ?_); clear hp; intro w hp; (try dsimp only [List.set] at hp)) | ((refine td_hs hp 6 rfl ?_); clear hp; intro w hp; (try dsimp only [List.set] at hp)) | ((refine td_hs hp 7 rfl ?_); clear hp; intro w hp; (try dsimp only [List.set] at hp))) | ((with_reducible refine rd_id ?_); first | (apply rd_len; exact rfl; exact rfl; assumption) | (apply rd_ix; exact rfl; exact rfl; exact rfl; exact rfl; omega))) <;> (conv => whnf)))
    have hin2 : y.key ∈ (idx g.lm y.key.ses).l := (in_mine hI y.key).2 (List.mem_map.2 ⟨y, hyW, rfl⟩)
    refine cl_eq (istrikeUK (hp.get (j := 5) rfl) y.key.ses y.key (by have := hlm y.key.ses; omega) (by omega)) rfl rfl ?_
    rintro e w (⟨hno, -⟩ | ⟨-, rfl, m', hm', hmt⟩)
    · exact absurd hin2 hno
    replace hp := hp.via (j := 5) rfl hmt
    clear hmt
    dsimp only [List.set] at hp
    refine ⟨_, rfl, ?_⟩
    ((conv => whnf); repeat' ((first | ((with_reducible refine br_id ?_); first | (with_reducible refine br_t ?_) | (with_reducible refine br_f ?_) | (with_reducible refine br_not ?_) | ((with_reducible refine br_dec (fun hx => ?_) (fun hx => ?_)) <;> (try (exfalso; first | omega | exact absurd hx (by assumption) | exact absurd (by assumption) hx))) | ((with_reducible refine br_eq (fun hx => ?_) (fun hx => ?_)) <;> (try (exfalso; first | omega | exact absurd hx (by assumption) | exact absurd (by assumption) hx))) | ((with_reducible refine br_ne (fun hx => ?_) (fun hx => ?_)) <;> (try (exfalso; first | omega | exact absurd hx (by assumption) | exact absurd (by assumption) hx))) | ((with_reducible refine br_s (fun hx => ?_) (fun hx => ?_)) <;> (try (exfalso; first | omega | exact absurd hx (by assumption) | exact absurd (by assumption) hx)))) | ((with_reducible refine ar_id ?_); first | (refine ar_i64 (by omega) ?_) | (refine ar_u32 (by omega) ?_) | (refine ar_u64 (by omega) ?_) | (refine ar_u8 (by omega) ?_)) | ((with_reducible refine cn_id ?_); first | (refine cn rfl ?_) | (refine cn (by assumption) ?_) | (refine cn (by omega) ?_) | (refine cn (Chg.refl _ _) ?_)) | ((with_reducible refine ld_id ?_); first | (apply ld_hs hp; (focus ((repeat (first | exact Has.here | apply Has.there)); done)); exact rfl) | (refine ld_of (by assumption) ?_)) | ((with_reducible refine ldn_id ?_); first | (apply lda_hs hp; (focus ((repeat (first | exact Has.here | apply Has.there)); done)); exact rfl) | (apply ldn_hs hp; (focus ((repeat (first | exact Has.here | apply Has.there)); done)); exact rfl; exact rfl)) | ((with_reducible refine al_id ?_); first | (refine al_cel hp ?_; clear hp; intro bb w hp)) | ((with_reducible refine st_id ?_); first | (apply sta_hs hp; (focus ((repeat (first | exact Has.here | apply Has.there)); done)); exact rfl; exact rfl; clear hp; intro w hp; (try dsimp only [List.set] at hp)) | (apply st_hs hp; (focus ((repeat (first | exact Has.here | apply Has.there)); done)); exact rfl; exact rfl; clear hp; intro w hp; (try dsimp only [List.set] at hp))) | ((with_reducible refine gen_id ?_); first | ((refine gen_del rfl hp 6 rfl rfl keyK Try.underlying67 y.key rfl ?_); clear hp; intro w hp; dsimp only [List.set] at hp) | (apply gen_build; exact rfl; exact rfl) | (apply gen_len; exact rfl; exact rfl; assumption) | (apply gen_min; exact rfl; exact rfl; exact rfl) | (apply gen_max; exact rfl; exact rfl; exact rfl) | (apply gen_ix; exact rfl; exact rfl; exact rfl; exact rfl; omega) | (apply gen_ixa; exact rfl; exact rfl; exact rfl; exact rfl; omega)) | ((with_reducible refine dr_id ?_); first | (refine dr_auto tabOk (by kernel_rfl) (by decide +kernel) ?_; (try replace hp := hp.drew)) | (refine dr_autog tabOk (by kernel_rfl) (by decide +kernel) ?_; (try replace hp := hp.drew)) | (refine dr_autot tabOk (by kernel_rfl) (by decide +kernel) ?_; (try replace hp := hp.drew))) | ((with_reducible refine fk_id ?_); first | (refine fk_mk ?_ ?_)) | ((with_reducible refine bg_id ?_); first | ((refine bg_hs hp 0 rfl ?_); clear hp; intro w hp; (try dsimp only [List.set] at hp)) | ((refine bg_hs hp 1 rfl ?_); clear hp; intro w hp; (try dsimp only [List.set] at hp)) | ((refine bg_hs hp 2 rfl ?_); clear hp; intro w hp; (try dsimp only [List.set] at hp)) | ((refine bg_hs hp 3 rfl ?_); clear hp; intro w hp; (try dsimp only [List.set] at hp)) | ((refine bg_hs hp 4 rfl ?_); clear hp; intro w hp; (try dsimp only [List.set] at hp)) | ((refine bg_hs hp 5 rfl ?_); clear hp; intro w hp; (try dsimp only [List.set] at hp))) | ((with_reducible refine td_id ?_); first | ((refine td_hs hp 0 rfl ?_); clear hp; intro w hp; (try dsimp only [List.set] at hp)) | ((refine td_hs hp 1 rfl ?_); clear hp; intro w hp; (try dsimp only [List.set] at hp)) | ((refine td_hs hp 2 rfl ?_); clear hp; intro w hp; (try dsimp only [List.set] at hp)) | ((refine td_hs hp 3 rfl ?_); clear hp; intro w hp; (try dsimp only [List.set] at hp)) | ((refine td_hs hp 4 rfl ?_); clear hp; intro w hp; (try dsimp only [List.set] at hp)) | ((refine td_hs hp 5 rfl ?_); clear hp; intro w hp; (try dsimp only [List.set] at hp)) | ((refine td_hs hp 6 rfl ?_); clear hp; intro w hp; (try dsimp only [List.set] at hp)) | ((refine td_hs hp 7 rfl ?_); clear hp; intro w hp; (try dsimp only [List.set] at hp))) | ((with_reducible refine rd_id ?_); first | (apply rd_len; exact rfl; exact rfl; assumption) | (apply rd_ix; exact rfl; exact rfl; exact rfl; exact rfl; omega))) <;> (conv => whnf)))
    rw [hxd] at hp
    refine ps_val (v' := .bool true) rfl ⟨_, rfl, hI.drop hyW hl' hm' hnd, rfl, ?_⟩
    refine (hp.tail.tail.tail).shut ?_
    exact (((((List.filter_sublist (l := g.la)).map entR).cons_cons _).cons_cons _).cons_cons _).cons_cons _
end Go.Proofs.Ytnmnbogdjlkmgaa
