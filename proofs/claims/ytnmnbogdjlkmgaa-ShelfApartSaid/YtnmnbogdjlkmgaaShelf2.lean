/- Shelf2: shelf.Add. -/
import Derived.Test.YtnmnbogdjlkmgaaShelf
namespace Go.Proofs.Ytnmnbogdjlkmgaa
set_option linter.unusedSimpArgs false
set_option linter.unusedVariables false
open Go.RowKit
set_option maxRecDepth 100000
set_option maxHeartbeats 2000000

theorem byKey_none {W : List BlP} {k : Key} (h : k ∉ W.map (·.key)) : byKey W k = none := by
  unfold byKey
  rw [List.find?_eq_none]
  intro y hy
  simp only [decide_eq_true_eq]
  exact fun e => h (List.mem_map.2 ⟨y, hy, e⟩)
theorem byKey_some {W : List BlP} {k : Key} (hn : (W.map (·.key)).Nodup) {y : BlP} (hy : y ∈ W) (hk : y.key = k) : byKey W k = some y := by
  unfold byKey
  induction W with
  | nil => cases hy
  | cons z W ih =>
    rw [List.map_cons, List.nodup_cons] at hn
    rw [List.find?_cons]
    rcases List.mem_cons.1 hy with rfl | hm
    · simp [hk]
    · have hz : z.key ≠ k := fun e => hn.1 (List.mem_map.2 ⟨y, hm, hk.trans e.symm⟩)
      simp only [hz, decide_false]
      exact ih hn.2 hm
theorem byKey_mem {W : List BlP} {k : Key} {y : BlP} (h : byKey W k = some y) : y ∈ W ∧ y.key = k := by
  have h1 := List.mem_of_find?_eq_some h
  have h2 := List.find?_some h
  exact ⟨h1, by simpa using h2⟩
def addE (W : List BlP) (x : BlP) : Nat := if 600 < x.bytes.length then 3 else if x.key ∈ W.map (·.key) then 6 else 0
def addW (W : List BlP) (x : BlP) : List BlP := if addE W x = 0 then W ++ [x] else W
theorem idx_le {g : Shf} {W : List BlP} (hI : ShI g W) : (∀ h, (idx g.lh h).l.length ≤ W.length) ∧ (∀ s, (idx g.lm s).l.length ≤ W.length) :=
  ⟨fun h => by rw [hI.hints, List.length_map]; exact List.length_filter_le _ _, fun s => by rw [hI.mine, List.length_map]; exact List.length_filter_le _ _⟩
theorem in_hint {g : Shf} {W : List BlP} (hI : ShI g W) (h : Hint) (k : Key) : k ∈ (idx g.lh h).l ↔ ∃ y ∈ W, y.hint = h ∧ y.key = k := by
  rw [hI.hints]
  simp only [List.mem_map, List.mem_filter, decide_eq_true_eq]
  exact ⟨fun ⟨y, ⟨h1, h2⟩, h3⟩ => ⟨y, h1, h2, h3⟩, fun ⟨y, h1, h2, h3⟩ => ⟨y, ⟨h1, h2⟩, h3⟩⟩
theorem in_mine {g : Shf} {W : List BlP} (hI : ShI g W) (k : Key) : k ∈ (idx g.lm k.ses).l ↔ k ∈ W.map (·.key) := by
  rw [hI.mine]
  simp only [List.mem_map, List.mem_filter, decide_eq_true_eq]
  exact ⟨fun ⟨y, ⟨h1, _⟩, h3⟩ => ⟨y, h1, h3⟩, fun ⟨y, h1, h3⟩ => ⟨y, ⟨h1, by rw [h3]⟩, h3⟩⟩
theorem ShI.hint_back {g : Shf} {W : List BlP} (hI : ShI g W) {l' : List (Hint × Sl Key)} (h : ∀ x, (idx l' x).l = (idx g.lh x).l) : ShI { g with lh := l', nh := g.nh + 1 - 1 } W :=
  ⟨hI.nodup, fun x => by show (idx l' x).l = _; rw [h, hI.hints], hI.mine, hI.all, hI.len, by show g.nh + 1 - 1 = _; rw [hI.nh]; omega, hI.nm, hI.bytes, hI.data, hI.many, hI.next, hI.ord⟩
theorem ShI.add {g : Shf} {W : List BlP} (hI : ShI g W) {x : Blob} {r : Bytes} (hr : r.l = x.data.l) (hlen : x.data.l.length ≤ 600) (hk : x.key ∉ W.map (·.key)) (hW : W.length < 10000) (hnx : g.next < 100000) {s' : Sl Key} {t' : Sl Key} (hs : s'.l = (idx g.lh x.hint).l ++ [x.key]) (ht : t'.l = (idx g.lm x.key.ses).l ++ [x.key]) :
    ShI { g with lh := mput g.lh x.hint s', nh := g.nh + 1, lm := mput g.lm x.key.ses t', nm := g.nm + 1, la := mput g.la x.key ⟨{ x with data := r }, g.next⟩, next := g.next + 1, bytes := g.bytes + (x.data.l.length : Int) } (W ++ [x.p]) where
  nodup := by
    rw [List.map_append, List.nodup_append]
    refine ⟨hI.nodup, by simp, fun a ha b hb => ?_⟩
    simp at hb
    subst hb
    exact fun e => hk (by have h1 : a = x.key := e; rw [← h1]; exact ha)
  hints h := by
    show (idx (mput g.lh x.hint s') h).l = _
    rw [idx_mput, List.filter_append, List.map_append]
    by_cases hh : h = x.hint
    · subst hh
      rw [if_pos rfl, hs, hI.hints]
      simp [Blob.p]
    · rw [if_neg hh, hI.hints]
      have : ¬ x.hint = h := fun e => hh e.symm
      simp [Blob.p, this]
  mine s := by
    show (idx (mput g.lm x.key.ses t') s).l = _
    rw [idx_mput, List.filter_append, List.map_append]
    by_cases hh : s = x.key.ses
    · subst hh
      rw [if_pos rfl, ht, hI.mine]
      simp [Blob.p]
    · rw [if_neg hh, hI.mine]
      have : ¬ x.key.ses = s := fun e => hh e.symm
      simp [Blob.p, this]
  all k := by
    show (mlk (mput g.la x.key _) k).map _ = _
    unfold mlk
    rw [lookup_mput]
    by_cases hh : k = x.key
    · subst hh
      rw [if_pos rfl]
      have h1 := byKey_none hk
      unfold byKey at h1 ⊢
      rw [List.find?_append, h1]
      simp [Blob.p, hr]
    · rw [if_neg hh]
      have h1 := hI.all k
      unfold mlk at h1
      rw [h1]
      have : ¬ x.key = k := fun e => hh e.symm
      unfold byKey
      rw [List.find?_append]
      simp [Blob.p, this]
  len := by
    show (mput g.la x.key _).length = _
    have hno : x.key ∉ g.la.map (·.1) := fun hm => by
      have h1 := hI.all x.key
      rw [byKey_none hk] at h1
      have h2 : g.la.lookup x.key = none := by simpa [mlk] using h1
      rw [List.lookup_eq_none_iff] at h2
      obtain ⟨p, hp, hpk⟩ := List.mem_map.1 hm
      have := h2 p hp
      simp [hpk] at this
    unfold mput
    rw [if_neg hno, List.length_append, List.length_append, hI.len]
    rfl
  nh := by show g.nh + 1 = _; rw [hI.nh, List.length_append]; simp
  nm := by show g.nm + 1 = _; rw [hI.nm, List.length_append]; simp
  bytes := by
    show g.bytes + _ = _
    rw [hI.bytes, List.map_append, List.sum_append]
    simp [Blob.p]
  data y hy := by
    rcases List.mem_append.1 hy with h1 | h1
    · exact hI.data y h1
    · simp at h1
      subst h1
      exact hlen
  many := by rw [List.length_append]; simp; omega
  next := by have := hI.next; show 0 ≤ g.next + 1 ∧ g.next + 1 ≤ 100000; omega
  ord := by
    obtain ⟨pl, h1, h2, h3⟩ := hI.ord
    have hkeys : ∀ y ∈ W, y.key ≠ x.key := fun y hy e => hk (List.mem_map.2 ⟨y, hy, e⟩)
    refine ⟨fun k => if k = x.key then g.next else pl k, fun k e he => ?_, ?_, fun y hy => ?_⟩
    · have he : (mput g.la x.key ⟨{ x with data := r }, g.next⟩).lookup k = some e := he
      rw [lookup_mput] at he
      by_cases hh : k = x.key
      · rw [if_pos hh] at he
        cases he
        show g.next = if k = x.key then g.next else pl k
        rw [if_pos hh]
      · rw [if_neg hh] at he
        show e.place = if k = x.key then g.next else pl k
        rw [if_neg hh]
        exact h1 k e he
    · rw [List.pairwise_append]
      refine ⟨h2.imp_of_mem fun {a b} ha hb hab => ?_, List.pairwise_singleton _ _, fun a ha b hb => ?_⟩
      · show (if a.key = x.key then g.next else pl a.key) < (if b.key = x.key then g.next else pl b.key)
        rw [if_neg (hkeys a ha), if_neg (hkeys b hb)]
        exact hab
      · simp at hb
        subst hb
        show (if a.key = x.key then g.next else pl a.key) < (if x.key = x.key then g.next else pl x.key)
        rw [if_neg (hkeys a ha), if_pos rfl]
        exact (h3 a ha).2
    · have h0 := hI.next
      show 0 ≤ (if y.key = x.key then g.next else pl y.key) ∧ (if y.key = x.key then g.next else pl y.key) < g.next + 1
      rcases List.mem_append.1 hy with hy | hy
      · rw [if_neg (hkeys y hy)]
        have := h3 y hy
        omega
      · simp at hy
        subst hy
        rw [if_pos (show x.p.key = x.key from rfl)]
        omega
theorem la_new {g : Shf} {W : List BlP} (hI : ShI g W) {k : Key} (hk : k ∉ W.map (·.key)) (v : Ent) : mput g.la k v = g.la ++ [(k, v)] := by
  have hno : k ∉ g.la.map (·.1) := fun hm => by
    have h1 := hI.all k
    rw [byKey_none hk] at h1
    have h2 : g.la.lookup k = none := by simpa [mlk] using h1
    rw [List.lookup_eq_none_iff] at h2
    obtain ⟨p, hp, hpk⟩ := List.mem_map.1 hm
    have := h2 p hp
    simp [hpk] at this
  unfold mput
  rw [if_neg hno]
theorem bytes_le : ∀ (W : List BlP), (∀ y ∈ W, y.bytes.length ≤ 600) → ((W.map (·.bytes.length)).sum : Nat) ≤ 600 * W.length
  | [], _ => by simp
  | y :: W, hd => by
    rw [List.map_cons, List.sum_cons, List.length_cons]
    have h1 := bytes_le W fun z hz => hd z (List.mem_cons_of_mem _ hz)
    have h2 := hd y (List.mem_cons_self ..)
    omega
theorem shadd_no {B : Nat} {w0 : World} {b : Nat} {g : Shf} {W : List BlP} (h : (star (shRs b g)).ok w0) (hI : ShI g W) (x : Blob) (hxd : SlOut (star (shRs b g)).dom B w0 u8L 1 x.data) (hBw : B ≤ w0.heap.size) (hW : W.length < 10000) (hnx : g.next < 100000) (hne0 : addE W x.p ≠ 0) : Calls Try.prog 14 #[ptr b, x.v] w0 fun e w' =>
    ∃ g', e = .returned (errno (addE W x.p)) ∧ ShI g' (addW W x.p) ∧ g'.next ≤ g.next + 1 ∧ Mut (star (shRs b g)) (star (shRs b g')) w0 w' := by
  have hp := Hp.open h
  have u2 := Try.underlying23
  have hmax : x.data.l.length ≤ 9223372036854775807 := by have := hxd.at_.le; have := hxd.at_.max; simp only [maxLen] at this; omega
  have hbl := hI.bytes
  have hbs := bytes_le W hI.data
  have hlh := (idx_le hI).1
  have hlm := (idx_le hI).2
  have hnh := hI.nh
  have hnm := hI.nm
  have hnx0 := hI.next
  have hmany := hI.many
  by_cases h6 : 600 < x.data.l.length
  · have hE : addE W x.p = 3 := if_pos h6
    rw [addW, hE, if_neg (by decide)]
    refine calls_x (args := [_, _]) tabOk Try.func14 Try.ntmps14 Try.results14 rfl (Nat.le_of_ble_eq_true rfl) ?_
    ((conv => whnf); repeat' ((first | ((with_reducible refine br_id ?_); first | (with_reducible refine br_t ?_) | (with_reducible refine br_f ?_) | (with_reducible refine br_not ?_) | ((with_reducible refine br_dec (fun hx => ?_) (fun hx => ?_)) <;> (try (exfalso; first | omega | exact absurd hx (by assumption) | exact absurd (by assumption) hx))) | ((with_reducible refine br_eq (fun hx => ?_) (fun hx => ?_)) <;> (try (exfalso; first | omega | exact absurd hx (by assumption) | exact absurd (by assumption) hx))) | ((with_reducible refine br_ne (fun hx => ?_) (fun hx => ?_)) <;> (try (exfalso; first | omega | exact absurd hx (by assumption) | exact absurd (by assumption) hx))) | ((with_reducible refine br_s (fun hx => ?_) (fun hx => ?_)) <;> (try (exfalso; first | omega | exact absurd hx (by assumption) | exact absurd (by assumption) hx)))) | ((with_reducible refine ar_id ?_); first | (refine ar_i64 (by omega) ?_) | (refine ar_u32 (by omega) ?_) | (refine ar_u64 (by omega) ?_) | (refine ar_u8 (by omega) ?_)) | ((with_reducible refine cn_id ?_); first | (refine cn rfl ?_) | (refine cn (by assumption) ?_) | (refine cn (by omega) ?_) | (refine cn (Chg.refl _ _) ?_)) | ((with_reducible refine ld_id ?_); first | (apply ld_hs hp; (focus ((repeat (first | exact Has.here | apply Has.there)); done)); exact rfl) | (refine ld_of (by assumption) ?_)) | ((with_reducible refine ldn_id ?_); first | (apply lda_hs hp; (focus ((repeat (first | exact Has.here | apply Has.there)); done)); exact rfl) | (apply ldn_hs hp; (focus ((repeat (first | exact Has.here | apply Has.there)); done)); exact rfl; exact rfl)) | ((with_reducible refine al_id ?_); first | (refine al_cel hp ?_; clear hp; intro bb w hp)) | ((with_reducible refine st_id ?_); first | (apply sta_hs hp; (focus ((repeat (first | exact Has.here | apply Has.there)); done)); exact rfl; exact rfl; clear hp; intro w hp; (try dsimp only [List.set] at hp)) | (apply st_hs hp; (focus ((repeat (first | exact Has.here | apply Has.there)); done)); exact rfl; exact rfl; clear hp; intro w hp; (try dsimp only [List.set] at hp))) | ((with_reducible refine gen_id ?_); first | (apply gen_build; exact rfl; exact rfl) | (apply gen_len; exact rfl; exact rfl; assumption) | (apply gen_min; exact rfl; exact rfl; exact rfl) | (apply gen_max; exact rfl; exact rfl; exact rfl) | (apply gen_ix; exact rfl; exact rfl; exact rfl; exact rfl; omega) | (apply gen_ixa; exact rfl; exact rfl; exact rfl; exact rfl; omega)) | ((with_reducible refine dr_id ?_); first | (refine dr_auto tabOk (by kernel_rfl) (by decide +kernel) ?_; (try replace hp := hp.drew)) | (refine dr_autog tabOk (by kernel_rfl) (by decide +kernel) ?_; (try replace hp := hp.drew)) | (refine dr_autot tabOk (by kernel_rfl) (by decide +kernel) ?_; (try replace hp := hp.drew))) | ((with_reducible refine fk_id ?_); first | (refine fk_mk ?_ ?_)) | ((with_reducible refine cl_id ?_); first | ((refine cl_eq ((shnone_any (cell_of_heap (hp.cel_get (j := 2) rfl) rfl))) rfl rfl ?_; rintro e w ⟨rfl, hcc⟩; replace hp := hp.call0 hcc; refine ⟨_, rfl, ?_⟩))) | ((with_reducible refine bg_id ?_); first | ((refine bg_hs hp 0 rfl ?_); clear hp; intro w hp; (try dsimp only [List.set] at hp)) | ((refine bg_hs hp 1 rfl ?_); clear hp; intro w hp; (try dsimp only [List.set] at hp)) | ((refine bg_hs hp 2 rfl ?_); clear hp; intro w hp; (try dsimp only [List.set] at hp)) | ((refine bg_hs hp 3 rfl ?_); clear hp; intro w hp; (try dsimp only [List.set] at hp)) | ((refine bg_hs hp 4 rfl ?_); clear hp; intro w hp; (try dsimp only [List.set] at hp)) | ((refine bg_hs hp 5 rfl ?_); clear hp; intro w hp; (try dsimp only [List.set] at hp))) | ((with_reducible refine td_id ?_); first | ((refine td_hs hp 0 rfl ?_); clear hp; intro w hp; (try dsimp only [List.set] at hp)) | ((refine td_hs hp 1 rfl ?_); clear hp; intro w hp; (try dsimp only [List.set] at hp)) | ((refine td_hs hp 2 rfl ?_); clear hp; intro w hp; (try dsimp only [List.set] at hp)) | ((refine td_hs hp 3 rfl ?_); clear hp; intro w hp; (try dsimp only [List.set] at hp)) | ((refine td_hs hp 4 rfl ?_); clear hp; intro w hp; (try dsimp only [List.set] at hp)) | ((refine td_hs hp 5 rfl ?_); clear hp; intro w hp; (try dsimp only [List.set] at hp)) | ((refine td_hs hp 6 rfl ?_); clear hp; intro w hp; (try dsimp only [List.set] at hp)) | ((refine td_hs hp 7 rfl ?_); clear hp; intro w hp; (try dsimp only [List.set] at hp))) | ((with_reducible refine rd_id ?_); first | (apply rd_len; exact rfl; exact rfl; assumption) | (apply rd_ix; exact rfl; exact rfl; exact rfl; exact rfl; omega))) <;> (conv => whnf)))
    exact ps_val (v' := errno 3) rfl ⟨g, rfl, hI, by omega, hp.tail.tail.shut (.refl _)⟩
  by_cases hk : x.key ∈ W.map (·.key)
  · have hE : addE W x.p = 6 := by unfold addE; rw [if_neg (show ¬ 600 < x.p.bytes.length from h6), if_pos (show x.p.key ∈ W.map (·.key) from hk)]
    rw [addW, hE, if_neg (by decide)]
    obtain ⟨y, hyW, hyk⟩ := List.mem_map.1 hk
    by_cases hyh : y.hint = x.hint
    · have hin : x.key ∈ (idx g.lh x.hint).l := (in_hint hI x.hint x.key).2 ⟨y, hyW, hyh, hyk⟩
      refine calls_x (args := [_, _]) tabOk Try.func14 Try.ntmps14 Try.results14 rfl (Nat.le_of_ble_eq_true rfl) ?_
      ((conv => whnf); repeat' ((first | ((with_reducible refine br_id ?_); first | (with_reducible refine br_t ?_) | (with_reducible refine br_f ?_) | (with_reducible refine br_not ?_) | ((with_reducible refine br_dec (fun hx => ?_) (fun hx => ?_)) <;> (try (exfalso; first | omega | exact absurd hx (by assumption) | exact absurd (by assumption) hx))) | ((with_reducible refine br_eq (fun hx => ?_) (fun hx => ?_)) <;> (try (exfalso; first | omega | exact absurd hx (by assumption) | exact absurd (by assumption) hx))) | ((with_reducible refine br_ne (fun hx => ?_) (fun hx => ?_)) <;> (try (exfalso; first | omega | exact absurd hx (by assumption) | exact absurd (by assumption) hx))) | ((with_reducible refine br_s (fun hx => ?_) (fun hx => ?_)) <;> (try (exfalso; first | omega | exact absurd hx (by assumption) | exact absurd (by assumption) hx)))) | ((with_reducible refine ar_id ?_); first | (refine ar_i64 (by omega) ?_) | (refine ar_u32 (by omega) ?_) | (refine ar_u64 (by omega) ?_) | (refine ar_u8 (by omega) ?_)) | ((with_reducible refine cn_id ?_); first | (refine cn rfl ?_) | (refine cn (by assumption) ?_) | (refine cn (by omega) ?_) | (refine cn (Chg.refl _ _) ?_)) | ((with_reducible refine ld_id ?_); first | (apply ld_hs hp; (focus ((repeat (first | exact Has.here | apply Has.there)); done)); exact rfl) | (refine ld_of (by assumption) ?_)) | ((with_reducible refine ldn_id ?_); first | (apply lda_hs hp; (focus ((repeat (first | exact Has.here | apply Has.there)); done)); exact rfl) | (apply ldn_hs hp; (focus ((repeat (first | exact Has.here | apply Has.there)); done)); exact rfl; exact rfl)) | ((with_reducible refine al_id ?_); first | (refine al_cel hp ?_; clear hp; intro bb w hp)) | ((with_reducible refine st_id ?_); first | (apply sta_hs hp; (focus ((repeat (first | exact Has.here | apply Has.there)); done)); exact rfl; exact rfl; clear hp; intro w hp; (try dsimp only [List.set] at hp)) | (apply st_hs hp; (focus ((repeat (first | exact Has.here | apply Has.there)); done)); exact rfl; exact rfl; clear hp; intro w hp; (try dsimp only [List.set] at hp))) | ((with_reducible refine gen_id ?_); first | (apply gen_build; exact rfl; exact rfl) | (apply gen_len; exact rfl; exact rfl; assumption) | (apply gen_min; exact rfl; exact rfl; exact rfl) | (apply gen_max; exact rfl; exact rfl; exact rfl) | (apply gen_ix; exact rfl; exact rfl; exact rfl; exact rfl; omega) | (apply gen_ixa; exact rfl; exact rfl; exact rfl; exact rfl; omega)) | ((with_reducible refine dr_id ?_); first | (refine dr_auto tabOk (by kernel_rfl) (by decide +kernel) ?_; (try replace hp := hp.drew)) | (refine dr_autog tabOk (by kernel_rfl) (by decide +kernel) ?_; (try replace hp := hp.drew)) | (refine dr_autot tabOk (by kernel_rfl) (by decide +kernel) ?_; (try replace hp := hp.drew))) | ((with_reducible refine fk_id ?_); first | (refine fk_mk ?_ ?_)) | ((with_reducible refine cl_id ?_); first | ((refine cl_eq ((shnone_any (cell_of_heap (hp.cel_get (j := 2) rfl) rfl))) rfl rfl ?_; rintro e w ⟨rfl, hcc⟩; replace hp := hp.call0 hcc; refine ⟨_, rfl, ?_⟩))) | ((with_reducible refine bg_id ?_); first | ((refine bg_hs hp 0 rfl ?_); clear hp; intro w hp; (try dsimp only [List.set] at hp)) | ((refine bg_hs hp 1 rfl ?_); clear hp; intro w hp; (try dsimp only [List.set] at hp)) | ((refine bg_hs hp 2 rfl ?_); clear hp; intro w hp; (try dsimp only [List.set] at hp)) | ((refine bg_hs hp 3 rfl ?_); clear hp; intro w hp; (try dsimp only [List.set] at hp)) | ((refine bg_hs hp 4 rfl ?_); clear hp; intro w hp; (try dsimp only [List.set] at hp)) | ((refine bg_hs hp 5 rfl ?_); clear hp; intro w hp; (try dsimp only [List.set] at hp))) | ((with_reducible refine td_id ?_); first | ((refine td_hs hp 0 rfl ?_); clear hp; intro w hp; (try dsimp only [List.set] at hp)) | ((refine td_hs hp 1 rfl ?_); clear hp; intro w hp; (try dsimp only [List.set] at hp)) | ((refine td_hs hp 2 rfl ?_); clear hp; intro w hp; (try dsimp only [List.set] at hp)) | ((refine td_hs hp 3 rfl ?_); clear hp; intro w hp; (try dsimp only [List.set] at hp)) | ((refine td_hs hp 4 rfl ?_); clear hp; intro w hp; (try dsimp only [List.set] at hp)) | ((refine td_hs hp 5 rfl ?_); clear hp; intro w hp; (try dsimp only [List.set] at hp)) | ((refine td_hs hp 6 rfl ?_); clear hp; intro w hp; (try dsimp only [List.set] at hp)) | ((refine td_hs hp 7 rfl ?_); clear hp; intro w hp; (try dsimp only [List.set] at hp))) | ((with_reducible refine rd_id ?_); first | (apply rd_len; exact rfl; exact rfl; assumption) | (apply rd_ix; exact rfl; exact rfl; exact rfl; exact rfl; omega))) <;> (conv => whnf)))
      refine cl_eq (inoteHK (hp.get (j := 3) rfl) x.hint x.key (by have := hlh x.hint; omega) (by omega)) rfl rfl ?_
      rintro e w (⟨-, rfl, hc⟩ | ⟨hno, -⟩)
      · replace hp := hp.call0 hc
        refine ⟨_, rfl, ?_⟩
        ((conv => whnf); repeat' ((first | ((with_reducible refine br_id ?_); first | (with_reducible refine br_t ?_) | (with_reducible refine br_f ?_) | (with_reducible refine br_not ?_) | ((with_reducible refine br_dec (fun hx => ?_) (fun hx => ?_)) <;> (try (exfalso; first | omega | exact absurd hx (by assumption) | exact absurd (by assumption) hx))) | ((with_reducible refine br_eq (fun hx => ?_) (fun hx => ?_)) <;> (try (exfalso; first | omega | exact absurd hx (by assumption) | exact absurd (by assumption) hx))) | ((with_reducible refine br_ne (fun hx => ?_) (fun hx => ?_)) <;> (try (exfalso; first | omega | exact absurd hx (by assumption) | exact absurd (by assumption) hx))) | ((with_reducible refine br_s (fun hx => ?_) (fun hx => ?_)) <;> (try (exfalso; first | omega | exact absurd hx (by assumption) | exact absurd (by assumption) hx)))) | ((with_reducible refine ar_id ?_); first | (refine ar_i64 (by omega) ?_) | (refine ar_u32 (by omega) ?_) | (refine ar_u64 (by omega) ?_) | (refine ar_u8 (by omega) ?_)) | ((with_reducible refine cn_id ?_); first | (refine cn rfl ?_) | (refine cn (by assumption) ?_) | (refine cn (by omega) ?_) | (refine cn (Chg.refl _ _) ?_)) | ((with_reducible refine ld_id ?_); first | (apply ld_hs hp; (focus ((repeat (first | exact Has.here | apply Has.there)); done)); exact rfl) | (refine ld_of (by assumption) ?_)) | ((with_reducible refine ldn_id ?_); first | (apply lda_hs hp; (focus ((repeat (first | exact Has.here | apply Has.there)); done)); exact rfl) | (apply ldn_hs hp; (focus ((repeat (first | exact Has.here | apply Has.there)); done)); exact rfl; exact rfl)) | ((with_reducible refine al_id ?_); first | (refine al_cel hp ?_; clear hp; intro bb w hp)) | ((with_reducible refine st_id ?_); first | (apply sta_hs hp; (focus ((repeat (first | exact Has.here | apply Has.there)); done)); exact rfl; exact rfl; clear hp; intro w hp; (try dsimp only [List.set] at hp)) | (apply st_hs hp; (focus ((repeat (first | exact Has.here | apply Has.there)); done)); exact rfl; exact rfl; clear hp; intro w hp; (try dsimp only [List.set] at hp))) | ((with_reducible refine gen_id ?_); first | (apply gen_build; exact rfl; exact rfl) | (apply gen_len; exact rfl; exact rfl; assumption) | (apply gen_min; exact rfl; exact rfl; exact rfl) | (apply gen_max; exact rfl; exact rfl; exact rfl) | (apply gen_ix; exact rfl; exact rfl; exact rfl; exact rfl; omega) | (apply gen_ixa; exact rfl; exact rfl; exact rfl; exact rfl; omega)) | ((with_reducible refine dr_id ?_); first | (refine dr_auto tabOk (by kernel_rfl) (by decide +kernel) ?_; (try replace hp := hp.drew)) | (refine dr_autog tabOk (by kernel_rfl) (by decide +kernel) ?_; (try replace hp := hp.drew)) | (refine dr_autot tabOk (by kernel_rfl) (by decide +kernel) ?_; (try replace hp := hp.drew))) | ((with_reducible refine fk_id ?_); first | (refine fk_mk ?_ ?_)) | ((with_reducible refine bg_id ?_); first | ((refine bg_hs hp 0 rfl ?_); clear hp; intro w hp; (try dsimp only [List.set] at hp)) | ((refine bg_hs hp 1 rfl ?_); clear hp; intro w hp; (try dsimp only [List.set] at hp)) | ((refine bg_hs hp 2 rfl ?_); clear hp; intro w hp; (try dsimp only [List.set] at hp)) | ((refine bg_hs hp 3 rfl ?_); clear hp; intro w hp; (try dsimp only [List.set] at hp)) | ((refine bg_hs hp 4 rfl ?_); clear hp; intro w hp; (try dsimp only [List.set] at hp)) | ((refine bg_hs hp 5 rfl ?_); clear hp; intro w hp; (try dsimp only [List.set] at hp))) | ((with_reducible refine td_id ?_); first | ((refine td_hs hp 0 rfl ?_); clear hp; intro w hp; (try dsimp only [List.set] at hp)) | ((refine td_hs hp 1 rfl ?_); clear hp; intro w hp; (try dsimp only [List.set] at hp)) | ((refine td_hs hp 2 rfl ?_); clear hp; intro w hp; (try dsimp only [List.set] at hp)) | ((refine td_hs hp 3 rfl ?_); clear hp; intro w hp; (try dsimp only [List.set] at hp)) | ((refine td_hs hp 4 rfl ?_); clear hp; intro w hp; (try dsimp only [List.set] at hp)) | ((refine td_hs hp 5 rfl ?_); clear hp; intro w hp; (try dsimp only [List.set] at hp)) | ((refine td_hs hp 6 rfl ?_); clear hp; intro w hp; (try dsimp only [List.set] at hp)) | ((refine td_hs hp 7 rfl ?_); clear hp; intro w hp; (try dsimp only [List.set] at hp))) | ((with_reducible refine rd_id ?_); first | (apply rd_len; exact rfl; exact rfl; assumption) | (apply rd_ix; exact rfl; exact rfl; exact rfl; exact rfl; omega))) <;> (conv => whnf)))
        exact ps_val (v' := errno 6) rfl ⟨g, rfl, hI, by omega, hp.tail.tail.shut (.refl _)⟩
      · exact absurd hin hno
    · have hni : x.key ∉ (idx g.lh x.hint).l := fun hm => by
        obtain ⟨z, hz1, hz2, hz3⟩ := (in_hint hI x.hint x.key).1 hm
        have h1 := byKey_some hI.nodup hyW hyk
        have h2 := byKey_some hI.nodup hz1 hz3
        rw [h1] at h2
        cases h2
        exact hyh hz2
      have hmine : x.key ∈ (idx g.lm x.key.ses).l := (in_mine hI x.key).2 hk
      obtain ⟨en, hen, henp⟩ : ∃ en, mlk g.la x.key = some en ∧ en.blob.p = y := by
        have h1 := hI.all x.key
        rw [byKey_some hI.nodup hyW hyk] at h1
        cases hl : mlk g.la x.key with
        | none => rw [hl] at h1; cases h1
        | some en => rw [hl] at h1; exact ⟨en, rfl, Option.some.inj h1⟩
      have hlk : (g.la.lookup x.key).getD Ent.z = en := by unfold mlk at hen; rw [hen]; rfl
      have hne : ¬ en.blob.hint = x.hint := fun e => hyh (by rw [← henp]; exact e)
      have hq : EqIs Try.prog 31 en.blob.hint.v x.hint.v false := by have := eq_hint en.blob.hint x.hint; rwa [decide_eq_false hne] at this
      have hbn : (if BinOp.neq = BinOp.eql then false else !false) = true := rfl
      refine calls_x (args := [_, _]) tabOk Try.func14 Try.ntmps14 Try.results14 rfl (Nat.le_of_ble_eq_true rfl) ?_
      ((conv => whnf); repeat' ((first | ((with_reducible refine br_id ?_); first | (with_reducible refine br_t ?_) | (with_reducible refine br_f ?_) | (with_reducible refine br_not ?_) | ((with_reducible refine br_dec (fun hx => ?_) (fun hx => ?_)) <;> (try (exfalso; first | omega | exact absurd hx (by assumption) | exact absurd (by assumption) hx))) | ((with_reducible refine br_eq (fun hx => ?_) (fun hx => ?_)) <;> (try (exfalso; first | omega | exact absurd hx (by assumption) | exact absurd (by assumption) hx))) | ((with_reducible refine br_ne (fun hx => ?_) (fun hx => ?_)) <;> (try (exfalso; first | omega | exact absurd hx (by assumption) | exact absurd (by assumption) hx))) | ((with_reducible refine br_s (fun hx => ?_) (fun hx => ?_)) <;> (try (exfalso; first | omega | exact absurd hx (by assumption) | exact absurd (by assumption) hx)))) | ((with_reducible refine ar_id ?_); first | (refine ar_i64 (by omega) ?_) | (refine ar_u32 (by omega) ?_) | (refine ar_u64 (by omega) ?_) | (refine ar_u8 (by omega) ?_)) | ((with_reducible refine cn_id ?_); first | (refine cn rfl ?_) | (refine cn (by assumption) ?_) | (refine cn (by omega) ?_) | (refine cn (Chg.refl _ _) ?_)) | ((with_reducible refine ld_id ?_); first | (apply ld_hs hp; (focus ((repeat (first | exact Has.here | apply Has.there)); done)); exact rfl) | (refine ld_of (by assumption) ?_)) | ((with_reducible refine ldn_id ?_); first | (apply lda_hs hp; (focus ((repeat (first | exact Has.here | apply Has.there)); done)); exact rfl) | (apply ldn_hs hp; (focus ((repeat (first | exact Has.here | apply Has.there)); done)); exact rfl; exact rfl)) | ((with_reducible refine al_id ?_); first | (refine al_cel hp ?_; clear hp; intro bb w hp)) | ((with_reducible refine st_id ?_); first | (apply sta_hs hp; (focus ((repeat (first | exact Has.here | apply Has.there)); done)); exact rfl; exact rfl; clear hp; intro w hp; (try dsimp only [List.set] at hp)) | (apply st_hs hp; (focus ((repeat (first | exact Has.here | apply Has.there)); done)); exact rfl; exact rfl; clear hp; intro w hp; (try dsimp only [List.set] at hp))) | ((with_reducible refine gen_id ?_); first | (apply gen_build; exact rfl; exact rfl) | (apply gen_len; exact rfl; exact rfl; assumption) | (apply gen_min; exact rfl; exact rfl; exact rfl) | (apply gen_max; exact rfl; exact rfl; exact rfl) | (apply gen_ix; exact rfl; exact rfl; exact rfl; exact rfl; omega) | (apply gen_ixa; exact rfl; exact rfl; exact rfl; exact rfl; omega)) | ((with_reducible refine dr_id ?_); first | (refine dr_auto tabOk (by kernel_rfl) (by decide +kernel) ?_; (try replace hp := hp.drew)) | (refine dr_autog tabOk (by kernel_rfl) (by decide +kernel) ?_; (try replace hp := hp.drew)) | (refine dr_autot tabOk (by kernel_rfl) (by decide +kernel) ?_; (try replace hp := hp.drew))) | ((with_reducible refine fk_id ?_); first | (refine fk_mk ?_ ?_)) | ((with_reducible refine cl_id ?_); first | ((refine cl_eq ((shnone_any (cell_of_heap (hp.cel_get (j := 2) rfl) rfl))) rfl rfl ?_; rintro e w ⟨rfl, hcc⟩; replace hp := hp.call0 hcc; refine ⟨_, rfl, ?_⟩))) | ((with_reducible refine bg_id ?_); first | ((refine bg_hs hp 0 rfl ?_); clear hp; intro w hp; (try dsimp only [List.set] at hp)) | ((refine bg_hs hp 1 rfl ?_); clear hp; intro w hp; (try dsimp only [List.set] at hp)) | ((refine bg_hs hp 2 rfl ?_); clear hp; intro w hp; (try dsimp only [List.set] at hp)) | ((refine bg_hs hp 3 rfl ?_); clear hp; intro w hp; (try dsimp only [List.set] at hp)) | ((refine bg_hs hp 4 rfl ?_); clear hp; intro w hp; (try dsimp only [List.set] at hp)) | ((refine bg_hs hp 5 rfl ?_); clear hp; intro w hp; (try dsimp only [List.set] at hp))) | ((with_reducible refine td_id ?_); first | ((refine td_hs hp 0 rfl ?_); clear hp; intro w hp; (try dsimp only [List.set] at hp)) | ((refine td_hs hp 1 rfl ?_); clear hp; intro w hp; (try dsimp only [List.set] at hp)) | ((refine td_hs hp 2 rfl ?_); clear hp; intro w hp; (try dsimp only [List.set] at hp)) | ((refine td_hs hp 3 rfl ?_); clear hp; intro w hp; (try dsimp only [List.set] at hp)) | ((refine td_hs hp 4 rfl ?_); clear hp; intro w hp; (try dsimp only [List.set] at hp)) | ((refine td_hs hp 5 rfl ?_); clear hp; intro w hp; (try dsimp only [List.set] at hp)) | ((refine td_hs hp 6 rfl ?_); clear hp; intro w hp; (try dsimp only [List.set] at hp)) | ((refine td_hs hp 7 rfl ?_); clear hp; intro w hp; (try dsimp only [List.set] at hp))) | ((with_reducible refine rd_id ?_); first | (apply rd_len; exact rfl; exact rfl; assumption) | (apply rd_ix; exact rfl; exact rfl; exact rfl; exact rfl; omega))) <;> (conv => whnf)))
      refine cl_eq (inoteHK (hp.get (j := 3) rfl) x.hint x.key (by have := hlh x.hint; omega) (by omega)) rfl rfl ?_
      rintro e w (⟨hm, -⟩ | ⟨-, rfl, s', hs', hmt⟩)
      · exact absurd hm hni
      replace hp := hp.via (j := 3) rfl hmt
      clear hmt
      dsimp only [List.set] at hp
      refine ⟨_, rfl, ?_⟩
      ((conv => whnf); repeat' ((first | ((with_reducible refine br_id ?_); first | (with_reducible refine br_t ?_) | (with_reducible refine br_f ?_) | (with_reducible refine br_not ?_) | ((with_reducible refine br_dec (fun hx => ?_) (fun hx => ?_)) <;> (try (exfalso; first | omega | exact absurd hx (by assumption) | exact absurd (by assumption) hx))) | ((with_reducible refine br_eq (fun hx => ?_) (fun hx => ?_)) <;> (try (exfalso; first | omega | exact absurd hx (by assumption) | exact absurd (by assumption) hx))) | ((with_reducible refine br_ne (fun hx => ?_) (fun hx => ?_)) <;> (try (exfalso; first | omega | exact absurd hx (by assumption) | exact absurd (by assumption) hx))) | ((with_reducible refine br_s (fun hx => ?_) (fun hx => ?_)) <;> (try (exfalso; first | omega | exact absurd hx (by assumption) | exact absurd (by assumption) hx)))) | ((with_reducible refine ar_id ?_); first | (refine ar_i64 (by omega) ?_) | (refine ar_u32 (by omega) ?_) | (refine ar_u64 (by omega) ?_) | (refine ar_u8 (by omega) ?_)) | ((with_reducible refine cn_id ?_); first | (refine cn rfl ?_) | (refine cn (by assumption) ?_) | (refine cn (by omega) ?_) | (refine cn (Chg.refl _ _) ?_)) | ((with_reducible refine ld_id ?_); first | (apply ld_hs hp; (focus ((repeat (first | exact Has.here | apply Has.there)); done)); exact rfl) | (refine ld_of (by assumption) ?_)) | ((with_reducible refine ldn_id ?_); first | (apply lda_hs hp; (focus ((repeat (first | exact Has.here | apply Has.there)); done)); exact rfl) | (apply ldn_hs hp; (focus ((repeat (first | exact Has.here | apply Has.there)); done)); exact rfl; exact rfl)) | ((with_reducible refine al_id ?_); first | (refine al_cel hp ?_; clear hp; intro bb w hp)) | ((with_reducible refine st_id ?_); first | (apply sta_hs hp; (focus ((repeat (first | exact Has.here | apply Has.there)); done)); exact rfl; exact rfl; clear hp; intro w hp; (try dsimp only [List.set] at hp)) | (apply st_hs hp; (focus ((repeat (first | exact Has.here | apply Has.there)); done)); exact rfl; exact rfl; clear hp; intro w hp; (try dsimp only [List.set] at hp))) | ((with_reducible refine gen_id ?_); first | (apply gen_build; exact rfl; exact rfl) | (apply gen_len; exact rfl; exact rfl; assumption) | (apply gen_min; exact rfl; exact rfl; exact rfl) | (apply gen_max; exact rfl; exact rfl; exact rfl) | (apply gen_ix; exact rfl; exact rfl; exact rfl; exact rfl; omega) | (apply gen_ixa; exact rfl; exact rfl; exact rfl; exact rfl; omega)) | ((with_reducible refine dr_id ?_); first | (refine dr_auto tabOk (by kernel_rfl) (by decide +kernel) ?_; (try replace hp := hp.drew)) | (refine dr_autog tabOk (by kernel_rfl) (by decide +kernel) ?_; (try replace hp := hp.drew)) | (refine dr_autot tabOk (by kernel_rfl) (by decide +kernel) ?_; (try replace hp := hp.drew))) | ((with_reducible refine fk_id ?_); first | (refine fk_mk ?_ ?_)) | ((with_reducible refine bg_id ?_); first | ((refine bg_hs hp 0 rfl ?_); clear hp; intro w hp; (try dsimp only [List.set] at hp)) | ((refine bg_hs hp 1 rfl ?_); clear hp; intro w hp; (try dsimp only [List.set] at hp)) | ((refine bg_hs hp 2 rfl ?_); clear hp; intro w hp; (try dsimp only [List.set] at hp)) | ((refine bg_hs hp 3 rfl ?_); clear hp; intro w hp; (try dsimp only [List.set] at hp)) | ((refine bg_hs hp 4 rfl ?_); clear hp; intro w hp; (try dsimp only [List.set] at hp)) | ((refine bg_hs hp 5 rfl ?_); clear hp; intro w hp; (try dsimp only [List.set] at hp))) | ((with_reducible refine td_id ?_); first | ((refine td_hs hp 0 rfl ?_); clear hp; intro w hp; (try dsimp only [List.set] at hp)) | ((refine td_hs hp 1 rfl ?_); clear hp; intro w hp; (try dsimp only [List.set] at hp)) | ((refine td_hs hp 2 rfl ?_); clear hp; intro w hp; (try dsimp only [List.set] at hp)) | ((refine td_hs hp 3 rfl ?_); clear hp; intro w hp; (try dsimp only [List.set] at hp)) | ((refine td_hs hp 4 rfl ?_); clear hp; intro w hp; (try dsimp only [List.set] at hp)) | ((refine td_hs hp 5 rfl ?_); clear hp; intro w hp; (try dsimp only [List.set] at hp)) | ((refine td_hs hp 6 rfl ?_); clear hp; intro w hp; (try dsimp only [List.set] at hp)) | ((refine td_hs hp 7 rfl ?_); clear hp; intro w hp; (try dsimp only [List.set] at hp))) | ((with_reducible refine rd_id ?_); first | (apply rd_len; exact rfl; exact rfl; assumption) | (apply rd_ix; exact rfl; exact rfl; exact rfl; exact rfl; omega))) <;> (conv => whnf)))
      refine cl_eq (inoteUK (hp.get (j := 4) rfl) x.key.ses x.key (by have := hlm x.key.ses; omega) (by omega)) rfl rfl ?_
      rintro e w (⟨-, rfl, hc⟩ | ⟨hno, -⟩)
      · replace hp := hp.call0 hc
        refine ⟨_, rfl, ?_⟩
        ((conv => whnf); repeat' ((first | ((with_reducible refine br_id ?_); first | ((with_reducible refine br_1 hbn ?_)) | (with_reducible refine br_t ?_) | (with_reducible refine br_f ?_) | (with_reducible refine br_not ?_) | ((with_reducible refine br_dec (fun hx => ?_) (fun hx => ?_)) <;> (try (exfalso; first | omega | exact absurd hx (by assumption) | exact absurd (by assumption) hx))) | ((with_reducible refine br_eq (fun hx => ?_) (fun hx => ?_)) <;> (try (exfalso; first | omega | exact absurd hx (by assumption) | exact absurd (by assumption) hx))) | ((with_reducible refine br_ne (fun hx => ?_) (fun hx => ?_)) <;> (try (exfalso; first | omega | exact absurd hx (by assumption) | exact absurd (by assumption) hx))) | ((with_reducible refine br_s (fun hx => ?_) (fun hx => ?_)) <;> (try (exfalso; first | omega | exact absurd hx (by assumption) | exact absurd (by assumption) hx)))) | ((with_reducible refine ar_id ?_); first | (refine ar_i64 (by omega) ?_) | (refine ar_u32 (by omega) ?_) | (refine ar_u64 (by omega) ?_) | (refine ar_u8 (by omega) ?_)) | ((with_reducible refine cn_id ?_); first | (refine cn rfl ?_) | (refine cn (by assumption) ?_) | (refine cn (by omega) ?_) | (refine cn (Chg.refl _ _) ?_)) | ((with_reducible refine ld_id ?_); first | (apply ld_hs hp; (focus ((repeat (first | exact Has.here | apply Has.there)); done)); exact rfl) | (refine ld_of (by assumption) ?_)) | ((with_reducible refine ldn_id ?_); first | (apply lda_hs hp; (focus ((repeat (first | exact Has.here | apply Has.there)); done)); exact rfl) | (apply ldn_hs hp; (focus ((repeat (first | exact Has.here | apply Has.there)); done)); exact rfl; exact rfl)) | ((with_reducible refine al_id ?_); first | (refine al_cel hp ?_; clear hp; intro bb w hp)) | ((with_reducible refine st_id ?_); first | (apply sta_hs hp; (focus ((repeat (first | exact Has.here | apply Has.there)); done)); exact rfl; exact rfl; clear hp; intro w hp; (try dsimp only [List.set] at hp)) | (apply st_hs hp; (focus ((repeat (first | exact Has.here | apply Has.there)); done)); exact rfl; exact rfl; clear hp; intro w hp; (try dsimp only [List.set] at hp))) | ((with_reducible refine gen_id ?_); first | (apply gen_build; exact rfl; exact rfl) | (apply gen_len; exact rfl; exact rfl; assumption) | (apply gen_min; exact rfl; exact rfl; exact rfl) | (apply gen_max; exact rfl; exact rfl; exact rfl) | (apply gen_ix; exact rfl; exact rfl; exact rfl; exact rfl; omega) | (apply gen_ixa; exact rfl; exact rfl; exact rfl; exact rfl; omega)) | ((with_reducible refine dr_id ?_); first | (refine dr_auto tabOk (by kernel_rfl) (by decide +kernel) ?_; (try replace hp := hp.drew)) | (refine dr_autog tabOk (by kernel_rfl) (by decide +kernel) ?_; (try replace hp := hp.drew)) | (refine dr_autot tabOk (by kernel_rfl) (by decide +kernel) ?_; (try replace hp := hp.drew))) | ((with_reducible refine fk_id ?_); first | (refine fk_mk ?_ ?_)) | ((with_reducible refine bg_id ?_); first | ((refine bg_hs hp 0 rfl ?_); clear hp; intro w hp; (try dsimp only [List.set] at hp)) | ((refine bg_hs hp 1 rfl ?_); clear hp; intro w hp; (try dsimp only [List.set] at hp)) | ((refine bg_hs hp 2 rfl ?_); clear hp; intro w hp; (try dsimp only [List.set] at hp)) | ((refine bg_hs hp 3 rfl ?_); clear hp; intro w hp; (try dsimp only [List.set] at hp)) | ((refine bg_hs hp 4 rfl ?_); clear hp; intro w hp; (try dsimp only [List.set] at hp)) | ((refine bg_hs hp 5 rfl ?_); clear hp; intro w hp; (try dsimp only [List.set] at hp))) | ((with_reducible refine td_id ?_); first | ((refine td_hs hp 0 rfl ?_); clear hp; intro w hp; (try dsimp only [List.set] at hp)) | ((refine td_hs hp 1 rfl ?_); clear hp; intro w hp; (try dsimp only [List.set] at hp)) | ((refine td_hs hp 2 rfl ?_); clear hp; intro w hp; (try dsimp only [List.set] at hp)) | ((refine td_hs hp 3 rfl ?_); clear hp; intro w hp; (try dsimp only [List.set] at hp)) | ((refine td_hs hp 4 rfl ?_); clear hp; intro w hp; (try dsimp only [List.set] at hp)) | ((refine td_hs hp 5 rfl ?_); clear hp; intro w hp; (try dsimp only [List.set] at hp)) | ((refine td_hs hp 6 rfl ?_); clear hp; intro w hp; (try dsimp only [List.set] at hp)) | ((refine td_hs hp 7 rfl ?_); clear hp; intro w hp; (try dsimp only [List.set] at hp))) | ((with_reducible refine rd_id ?_); first | ((refine rd_lookM rfl (mapR_ok.1 (hp.get (j := 5) rfl)) rfl keyK Try.underlying67 (z := Ent.z) rfl x.key rfl hlk ?_)) | ((refine rd_fld rfl rfl (fld_ent en) ?_)) | ((refine rd_fld rfl rfl (fld_hint en.blob) ?_)) | ((refine rd_eqa rfl rfl rfl hq (by kernel_rfl) (.inr rfl) ?_)) | (apply rd_len; exact rfl; exact rfl; assumption) | (apply rd_ix; exact rfl; exact rfl; exact rfl; exact rfl; omega))) <;> (conv => whnf)))
        have hl2 : (idx (mput g.lh x.hint s') x.hint).l = (idx g.lh x.hint).l ++ [x.key] := by rw [idx_mput, if_pos rfl, hs']
        refine cl_eq (istrikeHK (hp.get (j := 3) rfl) x.hint x.key (by rw [hl2, List.length_append]; have := hlh x.hint; simp; omega) (by omega)) rfl rfl ?_
        rintro e w (⟨hno, -⟩ | ⟨-, rfl, l', hl', hmt⟩)
        · exact absurd (by rw [hl2]; simp) hno
        replace hp := hp.via (j := 3) rfl hmt
        clear hmt
        dsimp only [List.set] at hp
        refine ⟨_, rfl, ?_⟩
        ((conv => whnf); repeat' ((first | ((with_reducible refine br_id ?_); first | (with_reducible refine br_t ?_) | (with_reducible refine br_f ?_) | (with_reducible refine br_not ?_) | ((with_reducible refine br_dec (fun hx => ?_) (fun hx => ?_)) <;> (try (exfalso; first | omega | exact absurd hx (by assumption) | exact absurd (by assumption) hx))) | ((with_reducible refine br_eq (fun hx => ?_) (fun hx => ?_)) <;> (try (exfalso; first | omega | exact absurd hx (by assumption) | exact absurd (by assumption) hx))) | ((with_reducible refine br_ne (fun hx => ?_) (fun hx => ?_)) <;> (try (exfalso; first | omega | exact absurd hx (by assumption) | exact absurd (by assumption) hx))) | ((with_reducible refine br_s (fun hx => ?_) (fun hx => ?_)) <;> (try (exfalso; first | omega | exact absurd hx (by assumption) | exact absurd (by assumption) hx)))) | ((with_reducible refine ar_id ?_); first | (refine ar_i64 (by omega) ?_) | (refine ar_u32 (by omega) ?_) | (refine ar_u64 (by omega) ?_) | (refine ar_u8 (by omega) ?_)) | ((with_reducible refine cn_id ?_); first | (refine cn rfl ?_) | (refine cn (by assumption) ?_) | (refine cn (by omega) ?_) | (refine cn (Chg.refl _ _) ?_)) | ((with_reducible refine ld_id ?_); first | (apply ld_hs hp; (focus ((repeat (first | exact Has.here | apply Has.there)); done)); exact rfl) | (refine ld_of (by assumption) ?_)) | ((with_reducible refine ldn_id ?_); first | (apply lda_hs hp; (focus ((repeat (first | exact Has.here | apply Has.there)); done)); exact rfl) | (apply ldn_hs hp; (focus ((repeat (first | exact Has.here | apply Has.there)); done)); exact rfl; exact rfl)) | ((with_reducible refine al_id ?_); first | (refine al_cel hp ?_; clear hp; intro bb w hp)) | ((with_reducible refine st_id ?_); first | (apply sta_hs hp; (focus ((repeat (first | exact Has.here | apply Has.there)); done)); exact rfl; exact rfl; clear hp; intro w hp; (try dsimp only [List.set] at hp)) | (apply st_hs hp; (focus ((repeat (first | exact Has.here | apply Has.there)); done)); exact rfl; exact rfl; clear hp; intro w hp; (try dsimp only [List.set] at hp))) | ((with_reducible refine gen_id ?_); first | (apply gen_build; exact rfl; exact rfl) | (apply gen_len; exact rfl; exact rfl; assumption) | (apply gen_min; exact rfl; exact rfl; exact rfl) | (apply gen_max; exact rfl; exact rfl; exact rfl) | (apply gen_ix; exact rfl; exact rfl; exact rfl; exact rfl; omega) | (apply gen_ixa; exact rfl; exact rfl; exact rfl; exact rfl; omega)) | ((with_reducible refine dr_id ?_); first | (refine dr_auto tabOk (by kernel_rfl) (by decide +kernel) ?_; (try replace hp := hp.drew)) | (refine dr_autog tabOk (by kernel_rfl) (by decide +kernel) ?_; (try replace hp := hp.drew)) | (refine dr_autot tabOk (by kernel_rfl) (by decide +kernel) ?_; (try replace hp := hp.drew))) | ((with_reducible refine fk_id ?_); first | (refine fk_mk ?_ ?_)) | ((with_reducible refine bg_id ?_); first | ((refine bg_hs hp 0 rfl ?_); clear hp; intro w hp; (try dsimp only [List.set] at hp)) | ((refine bg_hs hp 1 rfl ?_); clear hp; intro w hp; (try dsimp only [List.set] at hp)) | ((refine bg_hs hp 2 rfl ?_); clear hp; intro w hp; (try dsimp only [List.set] at hp)) | ((refine bg_hs hp 3 rfl ?_); clear hp; intro w hp; (try dsimp only [List.set] at hp)) | ((refine bg_hs hp 4 rfl ?_); clear hp; intro w hp; (try dsimp only [List.set] at hp)) | ((refine bg_hs hp 5 rfl ?_); clear hp; intro w hp; (try dsimp only [List.set] at hp))) | ((with_reducible refine td_id ?_); first | ((refine td_hs hp 0 rfl ?_); clear hp; intro w hp; (try dsimp only [List.set] at hp)) | ((refine td_hs hp 1 rfl ?_); clear hp; intro w hp; (try dsimp only [List.set] at hp)) | ((refine td_hs hp 2 rfl ?_); clear hp; intro w hp; (try dsimp only [List.set] at hp)) | ((refine td_hs hp 3 rfl ?_); clear hp; intro w hp; (try dsimp only [List.set] at hp)) | ((refine td_hs hp 4 rfl ?_); clear hp; intro w hp; (try dsimp only [List.set] at hp)) | ((refine td_hs hp 5 rfl ?_); clear hp; intro w hp; (try dsimp only [List.set] at hp)) | ((refine td_hs hp 6 rfl ?_); clear hp; intro w hp; (try dsimp only [List.set] at hp)) | ((refine td_hs hp 7 rfl ?_); clear hp; intro w hp; (try dsimp only [List.set] at hp))) | ((with_reducible refine rd_id ?_); first | (apply rd_len; exact rfl; exact rfl; assumption) | (apply rd_ix; exact rfl; exact rfl; exact rfl; exact rfl; omega))) <;> (conv => whnf)))
        refine ps_val (v' := errno 6) rfl ⟨{ g with lh := l', nh := g.nh + 1 - 1 }, rfl, hI.hint_back fun z => ?_, by show g.next ≤ g.next + 1; omega, hp.tail.tail.shut (.refl _)⟩
        rw [hl']
        by_cases hz : z = x.hint
        · subst hz
          rw [if_pos rfl, hl2, List.erase_append_right _ hni]
          simp
        · rw [if_neg hz, idx_mput, if_neg hz]
      · exact absurd hmine hno
  · exact absurd (by unfold addE; rw [if_neg (show ¬ 600 < x.p.bytes.length from h6), if_neg (show ¬ x.p.key ∈ W.map (·.key) from hk)]) hne0
end Go.Proofs.Ytnmnbogdjlkmgaa
