/- Pay3: which payload may be, and its bytes. -/
import Derived.Test.YtcfbdajanjbghaaPay
import Derived.Test.YtcfbdajanjbghaaWriter2
namespace Go.Proofs.Ytcfbdajanjbghaa
set_option linter.unusedSimpArgs false
set_option linter.unusedVariables false
open Go.RowKit
set_option maxRecDepth 100000
set_option maxHeartbeats 2000000

theorem el_tier : ElT Try.prog 22 34 2 32 := elt_of (z := .agg #[.int .u32 0, .slice none 0 0]) Try.underlying22 (by kernel_rfl) rfl (by omega)
def tierOk (l : List Tier) (i : Nat) : Bool := match l[i]? with
  | some t => decide (1 ≤ t.tx.l.length ∧ t.tx.l.length ≤ 64) && (match i with
    | 0 => true
    | k + 1 => match l[k]? with
      | some s => decide (s.fee.toNat < t.fee.toNat)
      | none => true)
  | none => true
def rightP (p : Payload) : Bool := decide (1 ≤ p.l.length ∧ p.l.length ≤ 8) && (List.range p.l.length).all (tierOk p.l)
theorem tierOk_zero {l : List Tier} {t : Tier} (h : l[0]? = some t) : tierOk l 0 = decide (1 ≤ t.tx.l.length ∧ t.tx.l.length ≤ 64) := by
  unfold tierOk
  rw [h]
  exact Bool.and_true _
theorem tierOk_succ {l : List Tier} {k : Nat} {t s : Tier} (h : l[k + 1]? = some t) (hs : l[k]? = some s) : tierOk l (k + 1) = (decide (1 ≤ t.tx.l.length ∧ t.tx.l.length ≤ 64) && decide (s.fee.toNat < t.fee.toNat)) := by
  unfold tierOk
  rw [h]
  simp only [hs]
theorem rightP_no {p : Payload} {i : Nat} (hi : i < p.l.length) (h : tierOk p.l i = false) : rightP p = false := by
  unfold rightP
  rw [Bool.and_eq_false_iff]
  right
  rw [List.all_eq_false]
  exact ⟨i, List.mem_range.2 hi, by rw [h]; simp⟩
theorem rightP_at {p : Payload} (h : rightP p = true) : 1 ≤ p.l.length ∧ p.l.length ≤ 8 ∧ ∀ t ∈ p.l, 1 ≤ t.tx.l.length ∧ t.tx.l.length ≤ 64 := by
  unfold rightP at h
  rw [Bool.and_eq_true, List.all_eq_true] at h
  obtain ⟨h1, h2⟩ := h
  have h1 := of_decide_eq_true h1
  refine ⟨h1.1, h1.2, fun t ht => ?_⟩
  obtain ⟨i, hi⟩ := List.mem_iff_getElem?.1 ht
  have h3 := h2 i (List.mem_range.2 (List.getElem?_eq_some_iff.1 hi).1)
  unfold tierOk at h3
  rw [hi] at h3
  simp only [Bool.and_eq_true, decide_eq_true_eq] at h3
  exact h3.1
theorem rightp_any {B : Nat} {w0 : World} {p : Payload} (h : PayAt B w0 p) : Calls Try.prog 106 #[p.pv] w0 fun e w' => e = .returned (.bool (rightP p)) ∧ Chg N0 w0 w' := by
  have hp := Hp.start (S := N0) w0
  have hB : ∀ b, N0 b → B ≤ b := fun _ hh => hh.elim
  have u1 := Try.underlying22
  have u2 := Try.underlying32
  have hmax : p.l.length ≤ 9223372036854775807 := by have := h.row.le; have := h.row.max; simp only [maxLen] at this; omega
  refine calls_x (args := [_]) tabOk Try.func106 Try.ntmps106 Try.results106 rfl (Nat.le_of_ble_eq_true rfl) ?_
  ((conv => whnf); repeat' ((first | ((with_reducible refine br_id ?_); first | (with_reducible refine br_t ?_) | (with_reducible refine br_f ?_) | (with_reducible refine br_not ?_) | ((with_reducible refine br_dec (fun hx => ?_) (fun hx => ?_)) <;> (try (exfalso; first | omega | exact absurd hx (by assumption) | exact absurd (by assumption) hx))) | ((with_reducible refine br_eq (fun hx => ?_) (fun hx => ?_)) <;> (try (exfalso; first | omega | exact absurd hx (by assumption) | exact absurd (by assumption) hx))) | ((with_reducible refine br_ne (fun hx => ?_) (fun hx => ?_)) <;> (try (exfalso; first | omega | exact absurd hx (by assumption) | exact absurd (by assumption) hx))) | ((with_reducible refine br_s (fun hx => ?_) (fun hx => ?_)) <;> (try (exfalso; first | omega | exact absurd hx (by assumption) | exact absurd (by assumption) hx)))) | ((with_reducible refine ar_id ?_); first | (refine ar_i64 (by omega) ?_) | (refine ar_u32 (by omega) ?_) | (refine ar_u64 (by omega) ?_) | (refine ar_u8 (by omega) ?_)) | ((with_reducible refine cn_id ?_); first | (refine cn rfl ?_) | (refine cn (by assumption) ?_) | (refine cn (by omega) ?_)) | ((with_reducible refine ld_id ?_); first | (apply ld_hs hp; (focus ((repeat (first | exact Has.here | apply Has.there)); done)); exact rfl) | (refine ld_of (by assumption) ?_)) | ((with_reducible refine ldn_id ?_); first | (apply lda_hs hp; (focus ((repeat (first | exact Has.here | apply Has.there)); done)); exact rfl) | (apply ldn_hs hp; (focus ((repeat (first | exact Has.here | apply Has.there)); done)); exact rfl; exact rfl)) | ((with_reducible refine al_id ?_); first | (refine al_cel hp ?_; clear hp; intro bb w hp)) | ((with_reducible refine st_id ?_); first | (apply sta_hs hp; (focus ((repeat (first | exact Has.here | apply Has.there)); done)); exact rfl; exact rfl; clear hp; intro w hp; (try dsimp only [List.set] at hp)) | (apply st_hs hp; (focus ((repeat (first | exact Has.here | apply Has.there)); done)); exact rfl; exact rfl; clear hp; intro w hp; (try dsimp only [List.set] at hp))) | ((with_reducible refine gen_id ?_); first | (apply gen_build; exact rfl; exact rfl) | (apply gen_len; exact rfl; exact rfl; assumption) | (apply gen_min; exact rfl; exact rfl; exact rfl) | (apply gen_max; exact rfl; exact rfl; exact rfl) | (apply gen_ix; exact rfl; exact rfl; exact rfl; exact rfl; omega) | (apply gen_ixa; exact rfl; exact rfl; exact rfl; exact rfl; omega)) | ((with_reducible refine dr_id ?_); first | (refine dr_auto tabOk (by kernel_rfl) (by decide +kernel) ?_; (try replace hp := hp.drew)) | (refine dr_autog tabOk (by kernel_rfl) (by decide +kernel) ?_; (try replace hp := hp.drew)) | (refine dr_autot tabOk (by kernel_rfl) (by decide +kernel) ?_; (try replace hp := hp.drew))) | ((with_reducible refine fk_id ?_); first | (refine fk_mk ?_ ?_)) | ((with_reducible refine rd_id ?_); first | (apply rd_len; exact rfl; exact rfl; assumption) | (apply rd_ix; exact rfl; exact rfl; exact rfl; exact rfl; omega))) <;> (conv => whnf)))
  · refine ps_val (v' := .bool false) rfl ⟨?_, hp.chg⟩
    have : rightP p = false := by
      unfold rightP
      rw [decide_eq_false (by omega), Bool.false_and]
    rw [this]
  · refine ps_val (v' := .bool false) rfl ⟨?_, hp.chg⟩
    have : rightP p = false := by
      unfold rightP
      rw [decide_eq_false (by omega), Bool.false_and]
    rw [this]
  · refine lp_inv (α := Nat) (fun i => [(1, ptr bb), (16, p.v), (17, i64 p.l.length), (18, i64 i)]) (fun i w => i ≤ p.l.length ∧ (∀ j, j < i → tierOk p.l j = true) ∧ Hp N0 w0 w [cel bb 24 #[p.v]]) (fun i => p.l.length - i) 0 (by (repeat' (first | exact trivial | (refine ⟨rfl, ?_⟩)))) ⟨by omega, fun j hj => by omega, hp⟩ ?_
    clear hp
    rintro i e0 w ⟨hi, hall, hp⟩
    rcases Nat.lt_or_ge i p.l.length with hlt | hge
    · obtain ⟨b, o, x, hA, hb, hrow, hxx⟩ := h.row.has hlt
      have hmem := List.mem_of_getElem? hxx
      have hxm : x.tx.l.length ≤ 9223372036854775807 := by have := (h.tx x hmem).le; have := (h.tx x hmem).max; simp only [maxLen] at this; omega
      have next : ∀ {w : World} {e0 : Env}, tierOk p.l i = true → ∀ j, j < i + 1 → tierOk p.l j = true := fun ht j hj => by
        rcases Nat.lt_or_ge j i with h1 | h1
        · exact hall j h1
        · obtain rfl : j = i := by omega
          exact ht
      cases i with
      | zero =>
        ((conv => whnf); repeat' ((first | ((with_reducible refine br_id ?_); first | (with_reducible refine br_t ?_) | (with_reducible refine br_f ?_) | (with_reducible refine br_not ?_) | ((with_reducible refine br_dec (fun hx => ?_) (fun hx => ?_)) <;> (try (exfalso; first | omega | exact absurd hx (by assumption) | exact absurd (by assumption) hx))) | ((with_reducible refine br_eq (fun hx => ?_) (fun hx => ?_)) <;> (try (exfalso; first | omega | exact absurd hx (by assumption) | exact absurd (by assumption) hx))) | ((with_reducible refine br_ne (fun hx => ?_) (fun hx => ?_)) <;> (try (exfalso; first | omega | exact absurd hx (by assumption) | exact absurd (by assumption) hx))) | ((with_reducible refine br_s (fun hx => ?_) (fun hx => ?_)) <;> (try (exfalso; first | omega | exact absurd hx (by assumption) | exact absurd (by assumption) hx)))) | ((with_reducible refine ar_id ?_); first | (refine ar_i64 (by omega) ?_) | (refine ar_u32 (by omega) ?_) | (refine ar_u64 (by omega) ?_) | (refine ar_u8 (by omega) ?_)) | ((with_reducible refine cn_id ?_); first | (refine cn rfl ?_) | (refine cn (by assumption) ?_) | (refine cn (by omega) ?_)) | ((with_reducible refine ld_id ?_); first | ((refine ld_row hp hB (by assumption) (by assumption) _ _ rfl (by assumption) (by rfl) ?_)) | ((refine ld_row0 hp hB (by assumption) (by assumption) _ rfl (by assumption) (by rfl) ?_)) | (apply ld_hs hp; (focus ((repeat (first | exact Has.here | apply Has.there)); done)); exact rfl) | (refine ld_of (by assumption) ?_)) | ((with_reducible refine ldn_id ?_); first | ((refine ldn_row hp hB (by assumption) (by assumption) _ _ rfl (by assumption) (by rfl) (by rfl) ?_)) | ((refine ldn_rowx hp hB (by assumption) (by assumption) _ rfl (by assumption) rfl ?_)) | ((refine ldn_row0 hp hB (by assumption) (by assumption) _ rfl (by assumption) (by rfl) (by rfl) ?_)) | (apply lda_hs hp; (focus ((repeat (first | exact Has.here | apply Has.there)); done)); exact rfl) | (apply ldn_hs hp; (focus ((repeat (first | exact Has.here | apply Has.there)); done)); exact rfl; exact rfl)) | ((with_reducible refine al_id ?_); first | (refine al_cel hp ?_; clear hp; intro bb w hp)) | ((with_reducible refine st_id ?_); first | (apply sta_hs hp; (focus ((repeat (first | exact Has.here | apply Has.there)); done)); exact rfl; exact rfl; clear hp; intro w hp; (try dsimp only [List.set] at hp)) | (apply st_hs hp; (focus ((repeat (first | exact Has.here | apply Has.there)); done)); exact rfl; exact rfl; clear hp; intro w hp; (try dsimp only [List.set] at hp))) | ((with_reducible refine gen_id ?_); first | ((refine gen_ixs rfl rfl (by assumption) rfl rfl (by omega) ?_)) | (apply gen_build; exact rfl; exact rfl) | (apply gen_len; exact rfl; exact rfl; assumption) | (apply gen_min; exact rfl; exact rfl; exact rfl) | (apply gen_max; exact rfl; exact rfl; exact rfl) | (apply gen_ix; exact rfl; exact rfl; exact rfl; exact rfl; omega) | (apply gen_ixa; exact rfl; exact rfl; exact rfl; exact rfl; omega)) | ((with_reducible refine dr_id ?_); first | (refine dr_auto tabOk (by kernel_rfl) (by decide +kernel) ?_; (try replace hp := hp.drew)) | (refine dr_autog tabOk (by kernel_rfl) (by decide +kernel) ?_; (try replace hp := hp.drew)) | (refine dr_autot tabOk (by kernel_rfl) (by decide +kernel) ?_; (try replace hp := hp.drew))) | ((with_reducible refine fk_id ?_); first | (refine fk_mk ?_ ?_)) | ((with_reducible refine rd_id ?_); first | ((refine rd_ixs rfl rfl (by assumption) rfl rfl (by omega) ?_)) | (apply rd_len; exact rfl; exact rfl; assumption) | (apply rd_ix; exact rfl; exact rfl; exact rfl; exact rfl; omega))) <;> (conv => whnf)))
        all_goals first
          | (refine ps_val (v' := .bool false) rfl ⟨?_, hp.chg⟩
             rw [rightP_no hlt (by rw [tierOk_zero hxx, decide_eq_false (by omega)])])
          | exact lp_next 1 (by omega) (by (repeat' (first | exact trivial | (refine ⟨rfl, ?_⟩)))) ⟨by omega, next (w := w) (e0 := e0) (by rw [tierOk_zero hxx, decide_eq_true (by omega)]), hp.tail⟩
      | succ k =>
        obtain ⟨y, hy⟩ : ∃ y, p.l[k]? = some y := ⟨_, List.getElem?_eq_getElem (by omega)⟩
        ((conv => whnf); repeat' ((first | ((with_reducible refine br_id ?_); first | (with_reducible refine br_t ?_) | (with_reducible refine br_f ?_) | (with_reducible refine br_not ?_) | ((with_reducible refine br_dec (fun hx => ?_) (fun hx => ?_)) <;> (try (exfalso; first | omega | exact absurd hx (by assumption) | exact absurd (by assumption) hx))) | ((with_reducible refine br_eq (fun hx => ?_) (fun hx => ?_)) <;> (try (exfalso; first | omega | exact absurd hx (by assumption) | exact absurd (by assumption) hx))) | ((with_reducible refine br_ne (fun hx => ?_) (fun hx => ?_)) <;> (try (exfalso; first | omega | exact absurd hx (by assumption) | exact absurd (by assumption) hx))) | ((with_reducible refine br_s (fun hx => ?_) (fun hx => ?_)) <;> (try (exfalso; first | omega | exact absurd hx (by assumption) | exact absurd (by assumption) hx)))) | ((with_reducible refine ar_id ?_); first | ((refine ar_n (k) (by omega) (by omega) ?_)) | (refine ar_i64 (by omega) ?_) | (refine ar_u32 (by omega) ?_) | (refine ar_u64 (by omega) ?_) | (refine ar_u8 (by omega) ?_)) | ((with_reducible refine cn_id ?_); first | (refine cn rfl ?_) | (refine cn (by assumption) ?_) | (refine cn (by omega) ?_)) | ((with_reducible refine ld_id ?_); first | ((refine ld_row hp hB (by assumption) (by assumption) _ _ rfl (by assumption) (by rfl) ?_)) | ((refine ld_row0 hp hB (by assumption) (by assumption) _ rfl (by assumption) (by rfl) ?_)) | ((refine ld_row hp hB hb hrow k 0 rfl hy rfl ?_)) | (apply ld_hs hp; (focus ((repeat (first | exact Has.here | apply Has.there)); done)); exact rfl) | (refine ld_of (by assumption) ?_)) | ((with_reducible refine ldn_id ?_); first | ((refine ldn_row hp hB (by assumption) (by assumption) _ _ rfl (by assumption) (by rfl) (by rfl) ?_)) | ((refine ldn_rowx hp hB (by assumption) (by assumption) _ rfl (by assumption) rfl ?_)) | ((refine ldn_row0 hp hB (by assumption) (by assumption) _ rfl (by assumption) (by rfl) (by rfl) ?_)) | (apply lda_hs hp; (focus ((repeat (first | exact Has.here | apply Has.there)); done)); exact rfl) | (apply ldn_hs hp; (focus ((repeat (first | exact Has.here | apply Has.there)); done)); exact rfl; exact rfl)) | ((with_reducible refine al_id ?_); first | (refine al_cel hp ?_; clear hp; intro bb w hp)) | ((with_reducible refine st_id ?_); first | (apply sta_hs hp; (focus ((repeat (first | exact Has.here | apply Has.there)); done)); exact rfl; exact rfl; clear hp; intro w hp; (try dsimp only [List.set] at hp)) | (apply st_hs hp; (focus ((repeat (first | exact Has.here | apply Has.there)); done)); exact rfl; exact rfl; clear hp; intro w hp; (try dsimp only [List.set] at hp))) | ((with_reducible refine gen_id ?_); first | ((refine gen_ixs rfl rfl (by assumption) rfl rfl (by omega) ?_)) | (apply gen_build; exact rfl; exact rfl) | (apply gen_len; exact rfl; exact rfl; assumption) | (apply gen_min; exact rfl; exact rfl; exact rfl) | (apply gen_max; exact rfl; exact rfl; exact rfl) | (apply gen_ix; exact rfl; exact rfl; exact rfl; exact rfl; omega) | (apply gen_ixa; exact rfl; exact rfl; exact rfl; exact rfl; omega)) | ((with_reducible refine dr_id ?_); first | (refine dr_auto tabOk (by kernel_rfl) (by decide +kernel) ?_; (try replace hp := hp.drew)) | (refine dr_autog tabOk (by kernel_rfl) (by decide +kernel) ?_; (try replace hp := hp.drew)) | (refine dr_autot tabOk (by kernel_rfl) (by decide +kernel) ?_; (try replace hp := hp.drew))) | ((with_reducible refine fk_id ?_); first | (refine fk_mk ?_ ?_)) | ((with_reducible refine rd_id ?_); first | ((refine rd_ixs rfl rfl (by assumption) rfl rfl (by omega) ?_)) | ((refine rd_ixs rfl rfl hA rfl rfl (by omega) ?_)) | (apply rd_len; exact rfl; exact rfl; assumption) | (apply rd_ix; exact rfl; exact rfl; exact rfl; exact rfl; omega))) <;> (conv => whnf)))
        all_goals first
          | (refine ps_val (v' := .bool false) rfl ⟨?_, hp.chg⟩
             rw [rightP_no hlt (by rw [tierOk_succ hxx hy, decide_eq_false (by omega), Bool.false_and])])
          | (refine ps_val (v' := .bool false) rfl ⟨?_, hp.chg⟩
             rw [rightP_no hlt (by rw [tierOk_succ hxx hy, decide_eq_false (p := y.fee.toNat < x.fee.toNat) (by omega), Bool.and_false])])
          | exact lp_next (k + 1 + 1) (by omega) (by (repeat' (first | exact trivial | (refine ⟨rfl, ?_⟩)))) ⟨by omega, next (w := w) (e0 := e0) (by rw [tierOk_succ hxx hy, decide_eq_true (by omega), decide_eq_true (p := y.fee.toNat < x.fee.toNat) (by omega)]; rfl), hp.tail⟩
    · ((conv => whnf); repeat' ((first | ((with_reducible refine br_id ?_); first | (with_reducible refine br_t ?_) | (with_reducible refine br_f ?_) | (with_reducible refine br_not ?_) | ((with_reducible refine br_dec (fun hx => ?_) (fun hx => ?_)) <;> (try (exfalso; first | omega | exact absurd hx (by assumption) | exact absurd (by assumption) hx))) | ((with_reducible refine br_eq (fun hx => ?_) (fun hx => ?_)) <;> (try (exfalso; first | omega | exact absurd hx (by assumption) | exact absurd (by assumption) hx))) | ((with_reducible refine br_ne (fun hx => ?_) (fun hx => ?_)) <;> (try (exfalso; first | omega | exact absurd hx (by assumption) | exact absurd (by assumption) hx))) | ((with_reducible refine br_s (fun hx => ?_) (fun hx => ?_)) <;> (try (exfalso; first | omega | exact absurd hx (by assumption) | exact absurd (by assumption) hx)))) | ((with_reducible refine ar_id ?_); first | (refine ar_i64 (by omega) ?_) | (refine ar_u32 (by omega) ?_) | (refine ar_u64 (by omega) ?_) | (refine ar_u8 (by omega) ?_)) | ((with_reducible refine cn_id ?_); first | (refine cn rfl ?_) | (refine cn (by assumption) ?_) | (refine cn (by omega) ?_)) | ((with_reducible refine ld_id ?_); first | (apply ld_hs hp; (focus ((repeat (first | exact Has.here | apply Has.there)); done)); exact rfl) | (refine ld_of (by assumption) ?_)) | ((with_reducible refine ldn_id ?_); first | (apply lda_hs hp; (focus ((repeat (first | exact Has.here | apply Has.there)); done)); exact rfl) | (apply ldn_hs hp; (focus ((repeat (first | exact Has.here | apply Has.there)); done)); exact rfl; exact rfl)) | ((with_reducible refine al_id ?_); first | (refine al_cel hp ?_; clear hp; intro bb w hp)) | ((with_reducible refine st_id ?_); first | (apply sta_hs hp; (focus ((repeat (first | exact Has.here | apply Has.there)); done)); exact rfl; exact rfl; clear hp; intro w hp; (try dsimp only [List.set] at hp)) | (apply st_hs hp; (focus ((repeat (first | exact Has.here | apply Has.there)); done)); exact rfl; exact rfl; clear hp; intro w hp; (try dsimp only [List.set] at hp))) | ((with_reducible refine gen_id ?_); first | (apply gen_build; exact rfl; exact rfl) | (apply gen_len; exact rfl; exact rfl; assumption) | (apply gen_min; exact rfl; exact rfl; exact rfl) | (apply gen_max; exact rfl; exact rfl; exact rfl) | (apply gen_ix; exact rfl; exact rfl; exact rfl; exact rfl; omega) | (apply gen_ixa; exact rfl; exact rfl; exact rfl; exact rfl; omega)) | ((with_reducible refine dr_id ?_); first | (refine dr_auto tabOk (by kernel_rfl) (by decide +kernel) ?_; (try replace hp := hp.drew)) | (refine dr_autog tabOk (by kernel_rfl) (by decide +kernel) ?_; (try replace hp := hp.drew)) | (refine dr_autot tabOk (by kernel_rfl) (by decide +kernel) ?_; (try replace hp := hp.drew))) | ((with_reducible refine fk_id ?_); first | (refine fk_mk ?_ ?_)) | ((with_reducible refine rd_id ?_); first | (apply rd_len; exact rfl; exact rfl; assumption) | (apply rd_ix; exact rfl; exact rfl; exact rfl; exact rfl; omega))) <;> (conv => whnf)))
      refine ps_val (v' := .bool true) rfl ⟨?_, hp.chg⟩
      have : rightP p = true := by
        unfold rightP
        rw [decide_eq_true (by omega), Bool.true_and, List.all_eq_true]
        intro j hj
        exact hall j (by have := List.mem_range.1 hj; omega)
      rw [this]
end Go.Proofs.Ytcfbdajanjbghaa
