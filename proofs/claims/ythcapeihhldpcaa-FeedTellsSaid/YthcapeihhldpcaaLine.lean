/- Line: the line of a block, as the program tells it and as the document says. -/
import Derived.Test.YthcapeihhldpcaaTree3
namespace Go.Proofs.Ythcapeihhldpcaa
set_option linter.unusedSimpArgs false
set_option linter.unusedVariables false
open Go.RowKit
set_option maxRecDepth 100000
set_option maxHeartbeats 2000000

theorem nodup_le {α : Type} [DecidableEq α] : ∀ {a b : List α}, a.Nodup → (∀ x ∈ a, x ∈ b) → a.length ≤ b.length
  | [], _, _, _ => Nat.zero_le _
  | x :: a, b, h, hs => by
    have h1 := List.nodup_cons.1 h
    have h2 := nodup_le (a := a) (b := b.erase x) h1.2 fun y hy => by
      have hne : y ≠ x := fun e => h1.1 (e ▸ hy)
      exact (List.mem_erase_of_ne hne).2 (hs y (List.mem_cons_of_mem _ hy))
    have h3 : x ∈ b := hs x (by simp)
    have h4 := List.length_erase_of_mem h3
    have h5 : 0 < b.length := List.length_pos_of_mem h3
    simp only [List.length_cons]
    omega
theorem idxI_get {α : Type} {p : α → Bool} : ∀ {l : List α} {i : Nat}, idxI p l = i → ∃ x, l[i]? = some x ∧ p x = true
  | [], i, h => by
    have : idxI p ([] : List α) = -1 := rfl
    omega
  | x :: l, i, h => by
    rw [idxI_cons] at h
    split at h
    · rename_i hx
      obtain rfl : i = 0 := by omega
      exact ⟨x, rfl, hx⟩
    · split at h
      · rename_i h0
        obtain ⟨j, hj⟩ : ∃ j : Nat, idxI p l = j := ⟨(idxI p l).toNat, by omega⟩
        obtain ⟨y, h1, h2⟩ := idxI_get hj
        obtain rfl : i = j + 1 := by omega
        exact ⟨y, by simpa using h1, h2⟩
      · omega
theorem idxI_ge {α : Type} (p : α → Bool) (l : List α) : -1 ≤ idxI p l := by
  unfold idxI
  split <;> omega
theorem idxI_lt {α : Type} {p : α → Bool} {l : List α} : idxI p l < 0 ↔ ∀ y ∈ l, p y = false := by
  constructor
  · intro h y hy
    cases hp : p y with
    | false => rfl
    | true =>
      obtain ⟨i, hi⟩ := List.getElem?_of_mem hy
      have : ∀ {l : List α} {i : Nat}, l[i]? = some y → 0 ≤ idxI p l := by
        intro l
        induction l with
        | nil => intro i h; simp at h
        | cons x l ih =>
          intro i h
          rw [idxI_cons]
          split
          · omega
          · rename_i hx
            cases i with
            | zero => simp at h; subst h; exact (hx hp).elim
            | succ i =>
              have := ih (i := i) (by simpa using h)
              rw [if_pos this]
              omega
      have := this hi
      omega
  · intro h
    rw [idxI_miss h]
    omega
/-- from a block to its parent, and on, till there is none, or it was met -/
def lineN (par : Id → Option Id) : Nat → List Id → Id → List Id
  | 0, met, _ => met
  | n + 1, met, h => match par h with
    | none => met
    | some p => if h ∈ met then met else lineN par n (met ++ [h]) p
abbrev parT (l : Ents) (h : Id) : Option Id := (mlk l h).map (·.parent)
def parB (bs : List Blk) (h : Id) : Option Id := if 0 ≤ fnd bs h then (bs[(fnd bs h).toNat]?).map (·.parent) else none
theorem RelT.par {l : Ents} {bs : List Blk} (h : RelT l bs) : parT l = parB bs := by
  funext k
  unfold parT parB
  rcases h.find (h := k) with ⟨h1, h2⟩ | ⟨i, x, y, h1, h2, h3, h4, h5, h6, h7⟩
  · rw [h1, h2]; rfl
  · rw [h1, h2, if_pos (by omega), Int.toNat_natCast, h3]
    simp [h6]
abbrev lineT (l : Ents) (h : Id) : List Id := lineN (parT l) (l.length + 1) [] h
abbrev lineB (bs : List Blk) (h : Id) : List Id := lineN (parB bs) (bs.length + 1) [] h
theorem RelT.line {l : Ents} {bs : List Blk} (h : RelT l bs) (k : Id) : lineT l k = lineB bs k := by
  unfold lineT lineB
  rw [h.par, h.len]
theorem parT_in {l : Ents} {h : Id} (hs : (parT l h).isSome = true) : h ∈ l.map (·.1) := by
  cases hx : mlk l h with
  | none => rw [parT, hx] at hs; cases hs
  | some x => exact List.mem_map.2 ⟨_, mlk_in hx, rfl⟩
theorem parB_in {bs : List Blk} {h : Id} (hs : (parB bs h).isSome = true) : h ∈ bs.map (·.hash) := by
  unfold parB at hs
  split at hs
  · rename_i h0
    false_or_by_contra
    rename_i hn
    have : fnd bs h = -1 := idxI_miss fun y hy => decide_eq_false fun e => hn (List.mem_map.2 ⟨y, hy, e⟩)
    omega
  · cases hs

theorem line38_any {w0 : World} {b m : Nat} {l : Ents} (ht : TreeAt w0 b m l) (hl : l.length ≤ 100) (h0 : Id) :
    Calls Try.prog 71 #[ptr b, h0.v] w0 fun e w' => ∃ s : Sl Id, s.l = lineT l h0 ∧ e = .returned s.v ∧ Made (rowR 55 32 Id.c s) w0 w' := by
  have hp := Hp.start (S := N0) w0
  have u1 := Try.underlying56
  refine calls_x (args := [_, _]) tabOk Try.func71 Try.ntmps71 Try.results71 rfl (Nat.le_of_ble_eq_true rfl) ?_
  ((conv => whnf); repeat' ((first | ((with_reducible refine br_id ?_); first | (with_reducible (first | refine br_t ?_ | refine br_f ?_ | refine br_not ?_)) | ((with_reducible (first | refine br_dec (fun hx => ?_) (fun hx => ?_) | refine br_eq (fun hx => ?_) (fun hx => ?_) | refine br_ne (fun hx => ?_) (fun hx => ?_) | refine br_s (fun hx => ?_) (fun hx => ?_))) <;> (try (exfalso; first | omega | exact absurd hx (by assumption) | exact absurd (by assumption) hx)))) | ((with_reducible refine ar_id ?_); first | (refine ar_i64 (by omega) ?_) | (refine ar_u32 (by omega) ?_) | (refine ar_u64 (by omega) ?_) | (refine ar_u8 (by omega) ?_)) | ((with_reducible refine cn_id ?_); first | (refine cn rfl ?_) | (refine cn (by assumption) ?_) | (refine cn (by omega) ?_) | (refine cn (Chg.refl _ _) ?_)) | ((with_reducible refine ld_id ?_); first | (apply ld_hs hp; (focus ((repeat (first | exact Has.here | apply Has.there)); done)); exact rfl) | (refine ld_of (by assumption) ?_)) | ((with_reducible refine ldn_id ?_); first | (apply lda_hs hp; (focus ((repeat (first | exact Has.here | apply Has.there)); done)); exact rfl) | (apply ldn_hs hp; (focus ((repeat (first | exact Has.here | apply Has.there)); done)); exact rfl; exact rfl)) | ((with_reducible refine al_id ?_); first | (refine al_cel hp ?_; clear hp; intro bb w hp)) | ((with_reducible refine st_id ?_); first | (apply sta_hs hp; (focus ((repeat (first | exact Has.here | apply Has.there)); done)); exact rfl; exact rfl; clear hp; intro w hp; (try dsimp only [List.set] at hp)) | (apply st_hs hp; (focus ((repeat (first | exact Has.here | apply Has.there)); done)); exact rfl; exact rfl; clear hp; intro w hp; (try dsimp only [List.set] at hp))) | ((with_reducible refine gen_id ?_); first | ((refine gen_mmake rfl Id.v Value.bool hp ?_); clear hp; intro bb w hp) | (apply gen_build; exact rfl; exact rfl) | (apply gen_len; exact rfl; exact rfl; assumption) | (apply gen_min; exact rfl; exact rfl; exact rfl) | (apply gen_max; exact rfl; exact rfl; exact rfl) | (apply gen_ix; exact rfl; exact rfl; exact rfl; exact rfl; omega) | (apply gen_ixa; exact rfl; exact rfl; exact rfl; exact rfl; omega)) | ((with_reducible refine dr_id ?_); first | (refine dr_auto tabOk (by kernel_rfl) (by decide +kernel) ?_; (try replace hp := hp.drew)) | (refine dr_autog tabOk (by kernel_rfl) (by decide +kernel) ?_; (try replace hp := hp.drew)) | (refine dr_autot tabOk (by kernel_rfl) (by decide +kernel) ?_; (try replace hp := hp.drew))) | ((with_reducible refine fk_id ?_); first | (refine fk_mk ?_ ?_)) | ((with_reducible refine rd_id ?_); first | (apply rd_len; exact rfl; exact rfl; assumption) | (apply rd_ix; exact rfl; exact rfl; exact rfl; exact rfl; omega))) <;> (conv => whnf)))
  rename_i bh _
  obtain ⟨mm, hmm⟩ : ∃ mm, mm = bb := ⟨_, rfl⟩
  subst hmm
  have hp0 : Hp N0 w0 w [rowR 55 32 Id.c Sl.nil, mapR Id.v Value.bool mm [], cel bh 55 h0.c.toArray] := hp.new (Chg.refl _ _) (rowR_ok.2 ⟨World.ownsRow_nil w 0 _ _, by simp [Sl.nil]⟩) fun b hb => by have h1 := rowR_dom.1 hb; cases h1
  clear hp
  refine lp_inv (α := Sl Id × List (Id × Bool) × Id) (fun a => [(0, ptr b), (3, ptr bh), (5, a.1.v), (6, .map (some mm))])
    (fun a w => lineN (parT l) (l.length + 1 - a.1.l.length) a.1.l a.2.2 = lineT l h0 ∧ a.1.l.Nodup ∧ (∀ x ∈ a.1.l, (parT l x).isSome = true) ∧ (∀ x, (mlk a.2.1 x).getD false = decide (x ∈ a.1.l)) ∧
      Hp N0 w0 w [rowR 55 32 Id.c a.1, mapR Id.v Value.bool mm a.2.1, cel bh 55 a.2.2.c.toArray]) (fun a => l.length + 1 - a.1.l.length) (Sl.nil, [], h0) (by (repeat' (first | exact trivial | (refine ⟨rfl, ?_⟩)))) ⟨rfl, List.nodup_nil, by simp [Sl.nil], by simp [Sl.nil], hp0⟩ ?_
  clear hp0
  rintro ⟨out, M, h⟩ e0 w ⟨heq, hnd, hin, hM, hp⟩
  dsimp only at heq hnd hin hM hp ⊢
  have hlen : out.l.length ≤ l.length := by
    have := nodup_le hnd fun x hx => parT_in (hin x hx)
    simpa using this
  obtain ⟨k, hk⟩ : ∃ k, l.length + 1 - out.l.length = k + 1 := ⟨l.length - out.l.length, by omega⟩
  rw [hk, lineN] at heq
  ((conv => whnf); repeat' ((first | ((with_reducible refine br_id ?_); first | (with_reducible (first | refine br_t ?_ | refine br_f ?_ | refine br_not ?_)) | ((with_reducible (first | refine br_dec (fun hx => ?_) (fun hx => ?_) | refine br_eq (fun hx => ?_) (fun hx => ?_) | refine br_ne (fun hx => ?_) (fun hx => ?_) | refine br_s (fun hx => ?_) (fun hx => ?_))) <;> (try (exfalso; first | omega | exact absurd hx (by assumption) | exact absurd (by assumption) hx)))) | ((with_reducible refine ar_id ?_); first | (refine ar_i64 (by omega) ?_) | (refine ar_u32 (by omega) ?_) | (refine ar_u64 (by omega) ?_) | (refine ar_u8 (by omega) ?_)) | ((with_reducible refine cn_id ?_); first | (refine cn rfl ?_) | (refine cn (by assumption) ?_) | (refine cn (by omega) ?_) | (refine cn (Chg.refl _ _) ?_)) | ((with_reducible refine ld_id ?_); first | (apply ld_hs hp; (focus ((repeat (first | exact Has.here | apply Has.there)); done)); exact rfl) | (refine ld_of (by assumption) ?_)) | ((with_reducible refine ldn_id ?_); first | (apply lda_hs hp; (focus ((repeat (first | exact Has.here | apply Has.there)); done)); exact rfl) | (apply ldn_hs hp; (focus ((repeat (first | exact Has.here | apply Has.there)); done)); exact rfl; exact rfl)) | ((with_reducible refine al_id ?_); first | (refine al_cel hp ?_; clear hp; intro bb w hp)) | ((with_reducible refine st_id ?_); first | (apply sta_hs hp; (focus ((repeat (first | exact Has.here | apply Has.there)); done)); exact rfl; exact rfl; clear hp; intro w hp; (try dsimp only [List.set] at hp)) | (apply st_hs hp; (focus ((repeat (first | exact Has.here | apply Has.there)); done)); exact rfl; exact rfl; clear hp; intro w hp; (try dsimp only [List.set] at hp))) | ((with_reducible refine gen_id ?_); first | (apply gen_build; exact rfl; exact rfl) | (apply gen_len; exact rfl; exact rfl; assumption) | (apply gen_min; exact rfl; exact rfl; exact rfl) | (apply gen_max; exact rfl; exact rfl; exact rfl) | (apply gen_ix; exact rfl; exact rfl; exact rfl; exact rfl; omega) | (apply gen_ixa; exact rfl; exact rfl; exact rfl; exact rfl; omega)) | ((with_reducible refine dr_id ?_); first | (refine dr_auto tabOk (by kernel_rfl) (by decide +kernel) ?_; (try replace hp := hp.drew)) | (refine dr_autog tabOk (by kernel_rfl) (by decide +kernel) ?_; (try replace hp := hp.drew)) | (refine dr_autot tabOk (by kernel_rfl) (by decide +kernel) ?_; (try replace hp := hp.drew))) | ((with_reducible refine fk_id ?_); first | (refine fk_mk ?_ ?_)) | ((with_reducible refine rd_id ?_); first | (apply rd_len; exact rfl; exact rfl; assumption) | (apply rd_ix; exact rfl; exact rfl; exact rfl; exact rfl; omega))) <;> (conv => whnf)))
  refine cl_of (get38_any (ht.keep hp.chg) h) ?_
  rintro e w ⟨sg, hsg, rfl, hm⟩
  replace hp := hp.add hm
  refine ⟨_, rfl, ?_⟩
  cases hgot : mlk l h with
  | none =>
    rw [show parT l h = none by rw [parT, hgot]; rfl] at heq
    rw [show (none : Option Blk).isSome = false from rfl]
    ((conv => whnf); repeat' ((first | ((with_reducible refine br_id ?_); first | (with_reducible (first | refine br_t ?_ | refine br_f ?_ | refine br_not ?_)) | ((with_reducible (first | refine br_dec (fun hx => ?_) (fun hx => ?_) | refine br_eq (fun hx => ?_) (fun hx => ?_) | refine br_ne (fun hx => ?_) (fun hx => ?_) | refine br_s (fun hx => ?_) (fun hx => ?_))) <;> (try (exfalso; first | omega | exact absurd hx (by assumption) | exact absurd (by assumption) hx)))) | ((with_reducible refine ar_id ?_); first | (refine ar_i64 (by omega) ?_) | (refine ar_u32 (by omega) ?_) | (refine ar_u64 (by omega) ?_) | (refine ar_u8 (by omega) ?_)) | ((with_reducible refine cn_id ?_); first | (refine cn rfl ?_) | (refine cn (by assumption) ?_) | (refine cn (by omega) ?_) | (refine cn (Chg.refl _ _) ?_)) | ((with_reducible refine ld_id ?_); first | (apply ld_hs hp; (focus ((repeat (first | exact Has.here | apply Has.there)); done)); exact rfl) | (refine ld_of (by assumption) ?_)) | ((with_reducible refine ldn_id ?_); first | (apply lda_hs hp; (focus ((repeat (first | exact Has.here | apply Has.there)); done)); exact rfl) | (apply ldn_hs hp; (focus ((repeat (first | exact Has.here | apply Has.there)); done)); exact rfl; exact rfl)) | ((with_reducible refine al_id ?_); first | (refine al_cel hp ?_; clear hp; intro bb w hp)) | ((with_reducible refine st_id ?_); first | (apply sta_hs hp; (focus ((repeat (first | exact Has.here | apply Has.there)); done)); exact rfl; exact rfl; clear hp; intro w hp; (try dsimp only [List.set] at hp)) | (apply st_hs hp; (focus ((repeat (first | exact Has.here | apply Has.there)); done)); exact rfl; exact rfl; clear hp; intro w hp; (try dsimp only [List.set] at hp))) | ((with_reducible refine gen_id ?_); first | (apply gen_build; exact rfl; exact rfl) | (apply gen_len; exact rfl; exact rfl; assumption) | (apply gen_min; exact rfl; exact rfl; exact rfl) | (apply gen_max; exact rfl; exact rfl; exact rfl) | (apply gen_ix; exact rfl; exact rfl; exact rfl; exact rfl; omega) | (apply gen_ixa; exact rfl; exact rfl; exact rfl; exact rfl; omega)) | ((with_reducible refine dr_id ?_); first | (refine dr_auto tabOk (by kernel_rfl) (by decide +kernel) ?_; (try replace hp := hp.drew)) | (refine dr_autog tabOk (by kernel_rfl) (by decide +kernel) ?_; (try replace hp := hp.drew)) | (refine dr_autot tabOk (by kernel_rfl) (by decide +kernel) ?_; (try replace hp := hp.drew))) | ((with_reducible refine fk_id ?_); first | (refine fk_mk ?_ ?_)) | ((with_reducible refine rd_id ?_); first | (apply rd_len; exact rfl; exact rfl; assumption) | (apply rd_ix; exact rfl; exact rfl; exact rfl; exact rfl; omega))) <;> (conv => whnf)))
    exact ps_val (v' := out.v) rfl ⟨out, heq, rfl, hp.made1 (j := 2) rfl⟩
  | some x =>
    rw [show parT l h = some x.parent by rw [parT, hgot]; rfl] at heq
    simp only at heq
    rw [show (some x : Option Blk).isSome = true from rfl]
    ((conv => whnf); repeat' ((first | ((with_reducible refine br_id ?_); first | (with_reducible (first | refine br_t ?_ | refine br_f ?_ | refine br_not ?_)) | ((with_reducible (first | refine br_dec (fun hx => ?_) (fun hx => ?_) | refine br_eq (fun hx => ?_) (fun hx => ?_) | refine br_ne (fun hx => ?_) (fun hx => ?_) | refine br_s (fun hx => ?_) (fun hx => ?_))) <;> (try (exfalso; first | omega | exact absurd hx (by assumption) | exact absurd (by assumption) hx)))) | ((with_reducible refine ar_id ?_); first | (refine ar_i64 (by omega) ?_) | (refine ar_u32 (by omega) ?_) | (refine ar_u64 (by omega) ?_) | (refine ar_u8 (by omega) ?_)) | ((with_reducible refine cn_id ?_); first | (refine cn rfl ?_) | (refine cn (by assumption) ?_) | (refine cn (by omega) ?_) | (refine cn (Chg.refl _ _) ?_)) | ((with_reducible refine ld_id ?_); first | (apply ld_hs hp; (focus ((repeat (first | exact Has.here | apply Has.there)); done)); exact rfl) | (refine ld_of (by assumption) ?_)) | ((with_reducible refine ldn_id ?_); first | (apply lda_hs hp; (focus ((repeat (first | exact Has.here | apply Has.there)); done)); exact rfl) | (apply ldn_hs hp; (focus ((repeat (first | exact Has.here | apply Has.there)); done)); exact rfl; exact rfl)) | ((with_reducible refine al_id ?_); first | (refine al_cel hp ?_; clear hp; intro bb w hp)) | ((with_reducible refine st_id ?_); first | (apply sta_hs hp; (focus ((repeat (first | exact Has.here | apply Has.there)); done)); exact rfl; exact rfl; clear hp; intro w hp; (try dsimp only [List.set] at hp)) | (apply st_hs hp; (focus ((repeat (first | exact Has.here | apply Has.there)); done)); exact rfl; exact rfl; clear hp; intro w hp; (try dsimp only [List.set] at hp))) | ((with_reducible refine gen_id ?_); first | ((refine gen_look rfl hp 0 rfl rfl idK Try.underlying181 (z := false) rfl _ rfl ?_)) | ((refine gen_look rfl hp 1 rfl rfl idK Try.underlying181 (z := false) rfl _ rfl ?_)) | ((refine gen_look rfl hp 2 rfl rfl idK Try.underlying181 (z := false) rfl _ rfl ?_)) | ((refine gen_look rfl hp 3 rfl rfl idK Try.underlying181 (z := false) rfl _ rfl ?_)) | ((refine gen_look rfl hp 4 rfl rfl idK Try.underlying181 (z := false) rfl _ rfl ?_)) | ((refine gen_put rfl hp 0 rfl rfl idK Try.underlying181 (h) rfl (true) rfl ?_); clear hp; intro w hp) | ((refine gen_put rfl hp 1 rfl rfl idK Try.underlying181 (h) rfl (true) rfl ?_); clear hp; intro w hp) | ((refine gen_put rfl hp 2 rfl rfl idK Try.underlying181 (h) rfl (true) rfl ?_); clear hp; intro w hp) | ((refine gen_put rfl hp 3 rfl rfl idK Try.underlying181 (h) rfl (true) rfl ?_); clear hp; intro w hp) | ((refine gen_put rfl hp 4 rfl rfl idK Try.underlying181 (h) rfl (true) rfl ?_); clear hp; intro w hp) | ((refine gen_bs rfl hp el_id Id.c [h] [h.v] rfl rfl rfl (fun _ hh => by simp at hh; subst hh; rfl) (by omega) ?_); clear hp; intro br w hp) | ((refine gen_app (s := out) rfl hp 1 rfl el_id rfl ⟨some ⟨br, 0, none⟩, 1, [h]⟩ rfl (hp.row (j := 0) rfl) (fun _ _ => rfl) idL_one (by simp only [List.length_singleton]; omega) (by simp only [maxLen, List.length_singleton]; omega) ?_); clear hp; intro A2 c2 w hp; dsimp only [List.set] at hp) | ((refine gen_app (s := out) rfl hp 2 rfl el_id rfl ⟨some ⟨br, 0, none⟩, 1, [h]⟩ rfl (hp.row (j := 0) rfl) (fun _ _ => rfl) idL_one (by simp only [List.length_singleton]; omega) (by simp only [maxLen, List.length_singleton]; omega) ?_); clear hp; intro A2 c2 w hp; dsimp only [List.set] at hp) | ((refine gen_app (s := out) rfl hp 3 rfl el_id rfl ⟨some ⟨br, 0, none⟩, 1, [h]⟩ rfl (hp.row (j := 0) rfl) (fun _ _ => rfl) idL_one (by simp only [List.length_singleton]; omega) (by simp only [maxLen, List.length_singleton]; omega) ?_); clear hp; intro A2 c2 w hp; dsimp only [List.set] at hp) | ((refine gen_app (s := out) rfl hp 4 rfl el_id rfl ⟨some ⟨br, 0, none⟩, 1, [h]⟩ rfl (hp.row (j := 0) rfl) (fun _ _ => rfl) idL_one (by simp only [List.length_singleton]; omega) (by simp only [maxLen, List.length_singleton]; omega) ?_); clear hp; intro A2 c2 w hp; dsimp only [List.set] at hp) | (apply gen_build; exact rfl; exact rfl) | (apply gen_len; exact rfl; exact rfl; assumption) | (apply gen_min; exact rfl; exact rfl; exact rfl) | (apply gen_max; exact rfl; exact rfl; exact rfl) | (apply gen_ix; exact rfl; exact rfl; exact rfl; exact rfl; omega) | (apply gen_ixa; exact rfl; exact rfl; exact rfl; exact rfl; omega)) | ((with_reducible refine dr_id ?_); first | (refine dr_auto tabOk (by kernel_rfl) (by decide +kernel) ?_; (try replace hp := hp.drew)) | (refine dr_autog tabOk (by kernel_rfl) (by decide +kernel) ?_; (try replace hp := hp.drew)) | (refine dr_autot tabOk (by kernel_rfl) (by decide +kernel) ?_; (try replace hp := hp.drew))) | ((with_reducible refine fk_id ?_); first | (refine fk_mk ?_ ?_)) | ((with_reducible refine rd_id ?_); first | ((refine rd_look rfl hp 0 rfl rfl idK Try.underlying181 (z := false) rfl _ rfl ?_)) | ((refine rd_look rfl hp 1 rfl rfl idK Try.underlying181 (z := false) rfl _ rfl ?_)) | ((refine rd_look rfl hp 2 rfl rfl idK Try.underlying181 (z := false) rfl _ rfl ?_)) | ((refine rd_look rfl hp 3 rfl rfl idK Try.underlying181 (z := false) rfl _ rfl ?_)) | ((refine rd_look rfl hp 4 rfl rfl idK Try.underlying181 (z := false) rfl _ rfl ?_)) | (apply rd_len; exact rfl; exact rfl; assumption) | (apply rd_ix; exact rfl; exact rfl; exact rfl; exact rfl; omega))) <;> (conv => whnf)))
    · have hmem : h ∈ out.l := by
        have := hM h
        rw [show (mlk M h).getD false = true from hx] at this
        simpa using this
      rw [if_pos hmem] at heq
      exact ps_val (v' := out.v) rfl ⟨out, heq, rfl, hp.made1 (j := 2) rfl⟩
    · have hmem : h ∉ out.l := by
        have := hM h
        rw [show (mlk M h).getD false = false from hx] at this
        simpa using this
      rw [if_neg hmem] at heq
      refine lp_next (⟨A2, c2, out.l ++ [h]⟩, mput M h true, x.parent) ?_ (by (repeat' (first | exact trivial | (refine ⟨rfl, ?_⟩)))) ⟨?_, nodup_next hnd hmem, ?_, ?_, hp.sub (List.Sublist.cons _ (List.Sublist.cons _ (List.Sublist.cons _ (.refl _))))⟩
      · show l.length + 1 - (out.l ++ [h]).length < l.length + 1 - out.l.length
        rw [List.length_append, List.length_singleton]
        omega
      · show lineN (parT l) (l.length + 1 - (out.l ++ [h]).length) (out.l ++ [h]) x.parent = lineT l h0
        rw [List.length_append, List.length_singleton, show l.length + 1 - (out.l.length + 1) = k by omega]
        exact heq
      · intro y hy
        have hy : y ∈ out.l ++ [h] := hy
        rcases List.mem_append.1 hy with hy | hy
        · exact hin y hy
        · simp at hy
          subst hy
          rw [parT, hgot]
          rfl
      · intro y
        show (mlk (mput M h true) y).getD false = decide (y ∈ out.l ++ [h])
        rw [mlk, lookup_mput]
        by_cases hy : y = h
        · simp [hy]
        · rw [if_neg hy]
          exact (hM y).trans (by simp [hy])

theorem lineRef_any {B : Nat} {w0 : World} {s : Sl Blk} (hs : SlAt B w0 Blk.c 65 s) (hl : s.l.length ≤ 100) (h0 : Id) :
    Calls Try.prog 72 #[s.v, h0.v] w0 fun e w' => ∃ r : Sl Id, r.l = lineB s.l h0 ∧ e = .returned r.v ∧ Made (rowR 55 32 Id.c r) w0 w' := by
  have hp := Hp.start (S := N0) w0
  have hB : ∀ b, N0 b → B ≤ b := fun _ hh => hh.elim
  have u1 := Try.underlying56
  have u2 := Try.underlying60
  refine calls_x (args := [_, _]) tabOk Try.func72 Try.ntmps72 Try.results72 rfl (Nat.le_of_ble_eq_true rfl) ?_
  ((conv => whnf); repeat' ((first | ((with_reducible refine br_id ?_); first | (with_reducible (first | refine br_t ?_ | refine br_f ?_ | refine br_not ?_)) | ((with_reducible (first | refine br_dec (fun hx => ?_) (fun hx => ?_) | refine br_eq (fun hx => ?_) (fun hx => ?_) | refine br_ne (fun hx => ?_) (fun hx => ?_) | refine br_s (fun hx => ?_) (fun hx => ?_))) <;> (try (exfalso; first | omega | exact absurd hx (by assumption) | exact absurd (by assumption) hx)))) | ((with_reducible refine ar_id ?_); first | (refine ar_i64 (by omega) ?_) | (refine ar_u32 (by omega) ?_) | (refine ar_u64 (by omega) ?_) | (refine ar_u8 (by omega) ?_)) | ((with_reducible refine cn_id ?_); first | (refine cn rfl ?_) | (refine cn (by assumption) ?_) | (refine cn (by omega) ?_) | (refine cn (Chg.refl _ _) ?_)) | ((with_reducible refine ld_id ?_); first | (apply ld_hs hp; (focus ((repeat (first | exact Has.here | apply Has.there)); done)); exact rfl) | (refine ld_of (by assumption) ?_)) | ((with_reducible refine ldn_id ?_); first | (apply lda_hs hp; (focus ((repeat (first | exact Has.here | apply Has.there)); done)); exact rfl) | (apply ldn_hs hp; (focus ((repeat (first | exact Has.here | apply Has.there)); done)); exact rfl; exact rfl)) | ((with_reducible refine al_id ?_); first | (refine al_cel hp ?_; clear hp; intro bb w hp)) | ((with_reducible refine st_id ?_); first | (apply sta_hs hp; (focus ((repeat (first | exact Has.here | apply Has.there)); done)); exact rfl; exact rfl; clear hp; intro w hp; (try dsimp only [List.set] at hp)) | (apply st_hs hp; (focus ((repeat (first | exact Has.here | apply Has.there)); done)); exact rfl; exact rfl; clear hp; intro w hp; (try dsimp only [List.set] at hp))) | ((with_reducible refine gen_id ?_); first | (apply gen_build; exact rfl; exact rfl) | (apply gen_len; exact rfl; exact rfl; assumption) | (apply gen_min; exact rfl; exact rfl; exact rfl) | (apply gen_max; exact rfl; exact rfl; exact rfl) | (apply gen_ix; exact rfl; exact rfl; exact rfl; exact rfl; omega) | (apply gen_ixa; exact rfl; exact rfl; exact rfl; exact rfl; omega)) | ((with_reducible refine dr_id ?_); first | (refine dr_auto tabOk (by kernel_rfl) (by decide +kernel) ?_; (try replace hp := hp.drew)) | (refine dr_autog tabOk (by kernel_rfl) (by decide +kernel) ?_; (try replace hp := hp.drew)) | (refine dr_autot tabOk (by kernel_rfl) (by decide +kernel) ?_; (try replace hp := hp.drew))) | ((with_reducible refine fk_id ?_); first | (refine fk_mk ?_ ?_)) | ((with_reducible refine rd_id ?_); first | (apply rd_len; exact rfl; exact rfl; assumption) | (apply rd_ix; exact rfl; exact rfl; exact rfl; exact rfl; omega))) <;> (conv => whnf)))
  refine cl_of (bfind_any (hs.keep hp.chg hB) h0) ?_
  rintro e w ⟨rfl, hc⟩
  replace hp := hp.call0 hc
  refine ⟨_, rfl, ?_⟩
  ((conv => whnf); repeat' ((first | ((with_reducible refine br_id ?_); first | (with_reducible (first | refine br_t ?_ | refine br_f ?_ | refine br_not ?_)) | ((with_reducible (first | refine br_dec (fun hx => ?_) (fun hx => ?_) | refine br_eq (fun hx => ?_) (fun hx => ?_) | refine br_ne (fun hx => ?_) (fun hx => ?_) | refine br_s (fun hx => ?_) (fun hx => ?_))) <;> (try (exfalso; first | omega | exact absurd hx (by assumption) | exact absurd (by assumption) hx)))) | ((with_reducible refine ar_id ?_); first | (refine ar_i64 (by omega) ?_) | (refine ar_u32 (by omega) ?_) | (refine ar_u64 (by omega) ?_) | (refine ar_u8 (by omega) ?_)) | ((with_reducible refine cn_id ?_); first | (refine cn rfl ?_) | (refine cn (by assumption) ?_) | (refine cn (by omega) ?_) | (refine cn (Chg.refl _ _) ?_)) | ((with_reducible refine ld_id ?_); first | (apply ld_hs hp; (focus ((repeat (first | exact Has.here | apply Has.there)); done)); exact rfl) | (refine ld_of (by assumption) ?_)) | ((with_reducible refine ldn_id ?_); first | (apply lda_hs hp; (focus ((repeat (first | exact Has.here | apply Has.there)); done)); exact rfl) | (apply ldn_hs hp; (focus ((repeat (first | exact Has.here | apply Has.there)); done)); exact rfl; exact rfl)) | ((with_reducible refine al_id ?_); first | (refine al_cel hp ?_; clear hp; intro bb w hp)) | ((with_reducible refine st_id ?_); first | (apply sta_hs hp; (focus ((repeat (first | exact Has.here | apply Has.there)); done)); exact rfl; exact rfl; clear hp; intro w hp; (try dsimp only [List.set] at hp)) | (apply st_hs hp; (focus ((repeat (first | exact Has.here | apply Has.there)); done)); exact rfl; exact rfl; clear hp; intro w hp; (try dsimp only [List.set] at hp))) | ((with_reducible refine gen_id ?_); first | (apply gen_build; exact rfl; exact rfl) | (apply gen_len; exact rfl; exact rfl; assumption) | (apply gen_min; exact rfl; exact rfl; exact rfl) | (apply gen_max; exact rfl; exact rfl; exact rfl) | (apply gen_ix; exact rfl; exact rfl; exact rfl; exact rfl; omega) | (apply gen_ixa; exact rfl; exact rfl; exact rfl; exact rfl; omega)) | ((with_reducible refine dr_id ?_); first | (refine dr_auto tabOk (by kernel_rfl) (by decide +kernel) ?_; (try replace hp := hp.drew)) | (refine dr_autog tabOk (by kernel_rfl) (by decide +kernel) ?_; (try replace hp := hp.drew)) | (refine dr_autot tabOk (by kernel_rfl) (by decide +kernel) ?_; (try replace hp := hp.drew))) | ((with_reducible refine fk_id ?_); first | (refine fk_mk ?_ ?_)) | ((with_reducible refine rd_id ?_); first | (apply rd_len; exact rfl; exact rfl; assumption) | (apply rd_ix; exact rfl; exact rfl; exact rfl; exact rfl; omega))) <;> (conv => whnf)))
  obtain ⟨bh, hbh⟩ : ∃ bh, bh = bb := ⟨_, rfl⟩
  subst hbh
  have hp0 : Hp N0 w0 w [rowR 55 32 Id.c Sl.nil, cel bh 55 h0.c.toArray] := hp.new (Chg.refl _ _) (rowR_ok.2 ⟨World.ownsRow_nil w 0 _ _, by simp [Sl.nil]⟩) fun b hb => by have h1 := rowR_dom.1 hb; cases h1
  clear hp
  refine lp_inv (α := Sl Id × Id) (fun a => [(0, s.v), (3, ptr bh), (5, a.1.v), (6, i64 (fnd s.l a.2))])
    (fun a w => lineN (parB s.l) (s.l.length + 1 - a.1.l.length) a.1.l a.2 = lineB s.l h0 ∧ a.1.l.Nodup ∧ (∀ x ∈ a.1.l, (parB s.l x).isSome = true) ∧
      Hp N0 w0 w [rowR 55 32 Id.c a.1, cel bh 55 a.2.c.toArray]) (fun a => s.l.length + 1 - a.1.l.length) (Sl.nil, h0) (by (repeat' (first | exact trivial | (refine ⟨rfl, ?_⟩)))) ⟨rfl, List.nodup_nil, by simp [Sl.nil], hp0⟩ ?_
  clear hp0
  rintro ⟨out, h⟩ e0 w ⟨heq, hnd, hin, hp⟩
  dsimp only at heq hnd hin hp ⊢
  have hlen : out.l.length ≤ s.l.length := by
    have := nodup_le hnd fun x hx => parB_in (hin x hx)
    simpa using this
  obtain ⟨k, hk⟩ : ∃ k, s.l.length + 1 - out.l.length = k + 1 := ⟨s.l.length - out.l.length, by omega⟩
  rw [hk, lineN] at heq
  by_cases hf : 0 ≤ fnd s.l h
  rotate_left
  · rw [show parB s.l h = none by unfold parB; rw [if_neg hf]] at heq
    ((conv => whnf); repeat' ((first | ((with_reducible refine br_id ?_); first | (with_reducible (first | refine br_t ?_ | refine br_f ?_ | refine br_not ?_)) | ((with_reducible (first | refine br_dec (fun hx => ?_) (fun hx => ?_) | refine br_eq (fun hx => ?_) (fun hx => ?_) | refine br_ne (fun hx => ?_) (fun hx => ?_) | refine br_s (fun hx => ?_) (fun hx => ?_))) <;> (try (exfalso; first | omega | exact absurd hx (by assumption) | exact absurd (by assumption) hx)))) | ((with_reducible refine ar_id ?_); first | (refine ar_i64 (by omega) ?_) | (refine ar_u32 (by omega) ?_) | (refine ar_u64 (by omega) ?_) | (refine ar_u8 (by omega) ?_)) | ((with_reducible refine cn_id ?_); first | (refine cn rfl ?_) | (refine cn (by assumption) ?_) | (refine cn (by omega) ?_) | (refine cn (Chg.refl _ _) ?_)) | ((with_reducible refine ld_id ?_); first | (apply ld_hs hp; (focus ((repeat (first | exact Has.here | apply Has.there)); done)); exact rfl) | (refine ld_of (by assumption) ?_)) | ((with_reducible refine ldn_id ?_); first | (apply lda_hs hp; (focus ((repeat (first | exact Has.here | apply Has.there)); done)); exact rfl) | (apply ldn_hs hp; (focus ((repeat (first | exact Has.here | apply Has.there)); done)); exact rfl; exact rfl)) | ((with_reducible refine al_id ?_); first | (refine al_cel hp ?_; clear hp; intro bb w hp)) | ((with_reducible refine st_id ?_); first | (apply sta_hs hp; (focus ((repeat (first | exact Has.here | apply Has.there)); done)); exact rfl; exact rfl; clear hp; intro w hp; (try dsimp only [List.set] at hp)) | (apply st_hs hp; (focus ((repeat (first | exact Has.here | apply Has.there)); done)); exact rfl; exact rfl; clear hp; intro w hp; (try dsimp only [List.set] at hp))) | ((with_reducible refine gen_id ?_); first | (apply gen_build; exact rfl; exact rfl) | (apply gen_len; exact rfl; exact rfl; assumption) | (apply gen_min; exact rfl; exact rfl; exact rfl) | (apply gen_max; exact rfl; exact rfl; exact rfl) | (apply gen_ix; exact rfl; exact rfl; exact rfl; exact rfl; omega) | (apply gen_ixa; exact rfl; exact rfl; exact rfl; exact rfl; omega)) | ((with_reducible refine dr_id ?_); first | (refine dr_auto tabOk (by kernel_rfl) (by decide +kernel) ?_; (try replace hp := hp.drew)) | (refine dr_autog tabOk (by kernel_rfl) (by decide +kernel) ?_; (try replace hp := hp.drew)) | (refine dr_autot tabOk (by kernel_rfl) (by decide +kernel) ?_; (try replace hp := hp.drew))) | ((with_reducible refine fk_id ?_); first | (refine fk_mk ?_ ?_)) | ((with_reducible refine rd_id ?_); first | (apply rd_len; exact rfl; exact rfl; assumption) | (apply rd_ix; exact rfl; exact rfl; exact rfl; exact rfl; omega))) <;> (conv => whnf)))
    exact ps_val (v' := out.v) rfl ⟨out, heq, rfl, hp.made1 (j := 0) rfl⟩
  obtain ⟨i, hi⟩ : ∃ i : Nat, fnd s.l h = i := ⟨(fnd s.l h).toNat, by omega⟩
  obtain ⟨y, hy, hyh⟩ := idxI_get hi
  have hpar : parB s.l h = some y.parent := by
    unfold parB
    rw [if_pos hf, hi, Int.toNat_natCast, hy]
    rfl
  rw [hpar] at heq
  simp only at heq
  have hil : i < s.l.length := (List.getElem?_eq_some_iff.1 hy).1
  obtain ⟨b1, o, y', hA, hb1, hrow, hy'⟩ := hs.has hil
  obtain rfl : y = y' := by rw [hy] at hy'; exact Option.some.inj hy'
  rw [hi]
  ((conv => whnf); repeat' ((first | ((with_reducible refine br_id ?_); first | (with_reducible (first | refine br_t ?_ | refine br_f ?_ | refine br_not ?_)) | ((with_reducible (first | refine br_dec (fun hx => ?_) (fun hx => ?_) | refine br_eq (fun hx => ?_) (fun hx => ?_) | refine br_ne (fun hx => ?_) (fun hx => ?_) | refine br_s (fun hx => ?_) (fun hx => ?_))) <;> (try (exfalso; first | omega | exact absurd hx (by assumption) | exact absurd (by assumption) hx)))) | ((with_reducible refine ar_id ?_); first | (refine ar_i64 (by omega) ?_) | (refine ar_u32 (by omega) ?_) | (refine ar_u64 (by omega) ?_) | (refine ar_u8 (by omega) ?_)) | ((with_reducible refine cn_id ?_); first | (refine cn rfl ?_) | (refine cn (by assumption) ?_) | (refine cn (by omega) ?_) | (refine cn (Chg.refl _ _) ?_)) | ((with_reducible refine ld_id ?_); first | (apply ld_hs hp; (focus ((repeat (first | exact Has.here | apply Has.there)); done)); exact rfl) | (refine ld_of (by assumption) ?_)) | ((with_reducible refine ldn_id ?_); first | (apply lda_hs hp; (focus ((repeat (first | exact Has.here | apply Has.there)); done)); exact rfl) | (apply ldn_hs hp; (focus ((repeat (first | exact Has.here | apply Has.there)); done)); exact rfl; exact rfl)) | ((with_reducible refine al_id ?_); first | (refine al_cel hp ?_; clear hp; intro bb w hp)) | ((with_reducible refine st_id ?_); first | (apply sta_hs hp; (focus ((repeat (first | exact Has.here | apply Has.there)); done)); exact rfl; exact rfl; clear hp; intro w hp; (try dsimp only [List.set] at hp)) | (apply st_hs hp; (focus ((repeat (first | exact Has.here | apply Has.there)); done)); exact rfl; exact rfl; clear hp; intro w hp; (try dsimp only [List.set] at hp))) | ((with_reducible refine gen_id ?_); first | (apply gen_build; exact rfl; exact rfl) | (apply gen_len; exact rfl; exact rfl; assumption) | (apply gen_min; exact rfl; exact rfl; exact rfl) | (apply gen_max; exact rfl; exact rfl; exact rfl) | (apply gen_ix; exact rfl; exact rfl; exact rfl; exact rfl; omega) | (apply gen_ixa; exact rfl; exact rfl; exact rfl; exact rfl; omega)) | ((with_reducible refine dr_id ?_); first | (refine dr_auto tabOk (by kernel_rfl) (by decide +kernel) ?_; (try replace hp := hp.drew)) | (refine dr_autog tabOk (by kernel_rfl) (by decide +kernel) ?_; (try replace hp := hp.drew)) | (refine dr_autot tabOk (by kernel_rfl) (by decide +kernel) ?_; (try replace hp := hp.drew))) | ((with_reducible refine fk_id ?_); first | (refine fk_mk ?_ ?_)) | ((with_reducible refine rd_id ?_); first | (apply rd_len; exact rfl; exact rfl; assumption) | (apply rd_ix; exact rfl; exact rfl; exact rfl; exact rfl; omega))) <;> (conv => whnf)))
  refine cl_of (in_any (hp.row (j := 0) rfl) h) ?_
  rintro e w ⟨rfl, hc⟩
  replace hp := hp.call0 hc
  refine ⟨_, rfl, ?_⟩
  ((conv => whnf); repeat' ((first | ((with_reducible refine br_id ?_); first | (with_reducible (first | refine br_t ?_ | refine br_f ?_ | refine br_not ?_)) | ((with_reducible (first | refine br_dec (fun hx => ?_) (fun hx => ?_) | refine br_eq (fun hx => ?_) (fun hx => ?_) | refine br_ne (fun hx => ?_) (fun hx => ?_) | refine br_s (fun hx => ?_) (fun hx => ?_))) <;> (try (exfalso; first | omega | exact absurd hx (by assumption) | exact absurd (by assumption) hx)))) | ((with_reducible refine ar_id ?_); first | (refine ar_i64 (by omega) ?_) | (refine ar_u32 (by omega) ?_) | (refine ar_u64 (by omega) ?_) | (refine ar_u8 (by omega) ?_)) | ((with_reducible refine cn_id ?_); first | (refine cn rfl ?_) | (refine cn (by assumption) ?_) | (refine cn (by omega) ?_) | (refine cn (Chg.refl _ _) ?_)) | ((with_reducible refine ld_id ?_); first | ((refine ld_row hp hB (by assumption) (by assumption) _ _ rfl (by assumption) (by rfl) ?_)) | ((refine ld_row0 hp hB (by assumption) (by assumption) _ rfl (by assumption) (by rfl) ?_)) | (apply ld_hs hp; (focus ((repeat (first | exact Has.here | apply Has.there)); done)); exact rfl) | (refine ld_of (by assumption) ?_)) | ((with_reducible refine ldn_id ?_); first | ((refine ldn_row hp hB (by assumption) (by assumption) _ _ rfl (by assumption) (by rfl) (by rfl) ?_)) | ((refine ldn_rowx hp hB (by assumption) (by assumption) _ rfl (by assumption) rfl ?_)) | ((refine ldn_row0 hp hB (by assumption) (by assumption) _ rfl (by assumption) (by rfl) (by rfl) ?_)) | ((refine ldn_row hp hB hb1 hrow i 32 rfl hy (by rfl) (by rfl) ?_)) | (apply lda_hs hp; (focus ((repeat (first | exact Has.here | apply Has.there)); done)); exact rfl) | (apply ldn_hs hp; (focus ((repeat (first | exact Has.here | apply Has.there)); done)); exact rfl; exact rfl)) | ((with_reducible refine al_id ?_); first | (refine al_cel hp ?_; clear hp; intro bb w hp)) | ((with_reducible refine st_id ?_); first | (apply sta_hs hp; (focus ((repeat (first | exact Has.here | apply Has.there)); done)); exact rfl; exact rfl; clear hp; intro w hp; (try dsimp only [List.set] at hp)) | (apply st_hs hp; (focus ((repeat (first | exact Has.here | apply Has.there)); done)); exact rfl; exact rfl; clear hp; intro w hp; (try dsimp only [List.set] at hp))) | ((with_reducible refine gen_id ?_); first | ((refine gen_ixs rfl rfl (by assumption) rfl rfl (by omega) ?_)) | ((refine gen_bs rfl hp el_id Id.c [h] [h.v] rfl rfl rfl (fun _ hh => by simp at hh; subst hh; rfl) (by omega) ?_); clear hp; intro br w hp) | ((refine gen_app (s := out) rfl hp 1 rfl el_id rfl ⟨some ⟨br, 0, none⟩, 1, [h]⟩ rfl (hp.row (j := 0) rfl) (fun _ _ => rfl) idL_one (by simp only [List.length_singleton]; omega) (by simp only [maxLen, List.length_singleton]; omega) ?_); clear hp; intro A2 c2 w hp; dsimp only [List.set] at hp) | ((refine gen_app (s := out) rfl hp 2 rfl el_id rfl ⟨some ⟨br, 0, none⟩, 1, [h]⟩ rfl (hp.row (j := 0) rfl) (fun _ _ => rfl) idL_one (by simp only [List.length_singleton]; omega) (by simp only [maxLen, List.length_singleton]; omega) ?_); clear hp; intro A2 c2 w hp; dsimp only [List.set] at hp) | (apply gen_build; exact rfl; exact rfl) | (apply gen_len; exact rfl; exact rfl; assumption) | (apply gen_min; exact rfl; exact rfl; exact rfl) | (apply gen_max; exact rfl; exact rfl; exact rfl) | (apply gen_ix; exact rfl; exact rfl; exact rfl; exact rfl; omega) | (apply gen_ixa; exact rfl; exact rfl; exact rfl; exact rfl; omega)) | ((with_reducible refine dr_id ?_); first | (refine dr_auto tabOk (by kernel_rfl) (by decide +kernel) ?_; (try replace hp := hp.drew)) | (refine dr_autog tabOk (by kernel_rfl) (by decide +kernel) ?_; (try replace hp := hp.drew)) | (refine dr_autot tabOk (by kernel_rfl) (by decide +kernel) ?_; (try replace hp := hp.drew))) | ((with_reducible refine fk_id ?_); first | (refine fk_mk ?_ ?_)) | ((with_reducible refine rd_id ?_); first | ((refine rd_ixs rfl rfl (by assumption) rfl rfl (by omega) ?_)) | (apply rd_len; exact rfl; exact rfl; assumption) | (apply rd_ix; exact rfl; exact rfl; exact rfl; exact rfl; omega))) <;> (conv => whnf)))
  · have hmem : h ∉ out.l := fun hh => by
      have := idxI_lt.1 hx h hh
      simp at this
    rw [if_neg hmem] at heq
    refine cl_of (bfind_any (hs.keep hp.chg hB) y.parent) ?_
    rintro e w ⟨rfl, hc⟩
    replace hp := hp.call0 hc
    refine ⟨_, rfl, ?_⟩
    ((conv => whnf); repeat' ((first | ((with_reducible refine br_id ?_); first | (with_reducible (first | refine br_t ?_ | refine br_f ?_ | refine br_not ?_)) | ((with_reducible (first | refine br_dec (fun hx => ?_) (fun hx => ?_) | refine br_eq (fun hx => ?_) (fun hx => ?_) | refine br_ne (fun hx => ?_) (fun hx => ?_) | refine br_s (fun hx => ?_) (fun hx => ?_))) <;> (try (exfalso; first | omega | exact absurd hx (by assumption) | exact absurd (by assumption) hx)))) | ((with_reducible refine ar_id ?_); first | (refine ar_i64 (by omega) ?_) | (refine ar_u32 (by omega) ?_) | (refine ar_u64 (by omega) ?_) | (refine ar_u8 (by omega) ?_)) | ((with_reducible refine cn_id ?_); first | (refine cn rfl ?_) | (refine cn (by assumption) ?_) | (refine cn (by omega) ?_) | (refine cn (Chg.refl _ _) ?_)) | ((with_reducible refine ld_id ?_); first | (apply ld_hs hp; (focus ((repeat (first | exact Has.here | apply Has.there)); done)); exact rfl) | (refine ld_of (by assumption) ?_)) | ((with_reducible refine ldn_id ?_); first | (apply lda_hs hp; (focus ((repeat (first | exact Has.here | apply Has.there)); done)); exact rfl) | (apply ldn_hs hp; (focus ((repeat (first | exact Has.here | apply Has.there)); done)); exact rfl; exact rfl)) | ((with_reducible refine al_id ?_); first | (refine al_cel hp ?_; clear hp; intro bb w hp)) | ((with_reducible refine st_id ?_); first | (apply sta_hs hp; (focus ((repeat (first | exact Has.here | apply Has.there)); done)); exact rfl; exact rfl; clear hp; intro w hp; (try dsimp only [List.set] at hp)) | (apply st_hs hp; (focus ((repeat (first | exact Has.here | apply Has.there)); done)); exact rfl; exact rfl; clear hp; intro w hp; (try dsimp only [List.set] at hp))) | ((with_reducible refine gen_id ?_); first | (apply gen_build; exact rfl; exact rfl) | (apply gen_len; exact rfl; exact rfl; assumption) | (apply gen_min; exact rfl; exact rfl; exact rfl) | (apply gen_max; exact rfl; exact rfl; exact rfl) | (apply gen_ix; exact rfl; exact rfl; exact rfl; exact rfl; omega) | (apply gen_ixa; exact rfl; exact rfl; exact rfl; exact rfl; omega)) | ((with_reducible refine dr_id ?_); first | (refine dr_auto tabOk (by kernel_rfl) (by decide +kernel) ?_; (try replace hp := hp.drew)) | (refine dr_autog tabOk (by kernel_rfl) (by decide +kernel) ?_; (try replace hp := hp.drew)) | (refine dr_autot tabOk (by kernel_rfl) (by decide +kernel) ?_; (try replace hp := hp.drew))) | ((with_reducible refine fk_id ?_); first | (refine fk_mk ?_ ?_)) | ((with_reducible refine rd_id ?_); first | (apply rd_len; exact rfl; exact rfl; assumption) | (apply rd_ix; exact rfl; exact rfl; exact rfl; exact rfl; omega))) <;> (conv => whnf)))
    refine lp_next (⟨A2, c2, out.l ++ [h]⟩, y.parent) ?_ (by (repeat' (first | exact trivial | (refine ⟨rfl, ?_⟩)))) ⟨?_, nodup_next hnd hmem, ?_, hp.sub (List.Sublist.cons _ (.refl _))⟩
    · show s.l.length + 1 - (out.l ++ [h]).length < s.l.length + 1 - out.l.length
      rw [List.length_append, List.length_singleton]
      omega
    · show lineN (parB s.l) (s.l.length + 1 - (out.l ++ [h]).length) (out.l ++ [h]) y.parent = lineB s.l h0
      rw [List.length_append, List.length_singleton, show s.l.length + 1 - (out.l.length + 1) = k by omega]
      exact heq
    · intro z hz
      have hz : z ∈ out.l ++ [h] := hz
      rcases List.mem_append.1 hz with hz | hz
      · exact hin z hz
      · simp at hz
        subst hz
        rw [hpar]
        rfl
  · have hmem : h ∈ out.l := by
      false_or_by_contra
      rename_i hh
      exact hx (idxI_lt.2 fun z hz => decide_eq_false fun e => hh (e ▸ hz))
    rw [if_pos hmem] at heq
    exact ps_val (v' := out.v) rfl ⟨out, heq, rfl, hp.made1 (j := 0) rfl⟩
end Go.Proofs.Ythcapeihhldpcaa
