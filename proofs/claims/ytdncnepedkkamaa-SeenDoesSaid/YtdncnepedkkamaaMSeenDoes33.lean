/- MSeenDoes33: SeenOp, OpenG, Sort0. -/
import Derived.Test.YtdncnepedkkamaaMSeenDoes31
import Derived.Test.YtdncnepedkkamaaMSeenDoes32
import Derived.Test.YtdncnepedkkamaaMSeenDoes7
import Derived.Test.YtdncnepedkkamaaMSeenDoes8
import Derived.Sort.LotA
import Derived.Sort.LotB
import Derived.Sort.LotD3
import Derived.Lib.BitFns
/- SeenOp: of the law SeenDoes: its calls; are there not too many; what an index and the document's do alike. -/
namespace Go.Proofs.Ytdncnepedkkamaa
set_option linter.unusedSimpArgs false
set_option linter.unusedVariables false
open Go.RowKit
set_option maxRecDepth 100000
set_option maxHeartbeats 2000000
structure Ops where
  kind : Int
  near : Bool
  ht : UInt32
  b : Blk
abbrev Ops.c (x : Ops) : List Value := (i64 x.kind :: .bool x.near :: u32 x.ht :: u8 x.b.hash[0] :: u8 x.b.hash[1] :: u8 x.b.hash[2] :: u8 x.b.hash[3] :: u8 x.b.hash[4] :: u8 x.b.hash[5] :: u8 x.b.hash[6] :: u8 x.b.hash[7] :: u8 x.b.hash[8] :: u8 x.b.hash[9] :: u8 x.b.hash[10] :: u8 x.b.hash[11] :: u8 x.b.hash[12] :: u8 x.b.hash[13] :: u8 x.b.hash[14] :: u8 x.b.hash[15] :: u8 x.b.hash[16] :: u8 x.b.hash[17] :: u8 x.b.hash[18] :: u8 x.b.hash[19] :: u8 x.b.hash[20] :: u8 x.b.hash[21] :: u8 x.b.hash[22] :: u8 x.b.hash[23] :: u8 x.b.hash[24] :: u8 x.b.hash[25] :: u8 x.b.hash[26] :: u8 x.b.hash[27] :: u8 x.b.hash[28] :: u8 x.b.hash[29] :: u8 x.b.hash[30] :: u8 x.b.hash[31] :: u8 x.b.parent[0] :: u8 x.b.parent[1] :: u8 x.b.parent[2] :: u8 x.b.parent[3] :: u8 x.b.parent[4] :: u8 x.b.parent[5] :: u8 x.b.parent[6] :: u8 x.b.parent[7] :: u8 x.b.parent[8] :: u8 x.b.parent[9] :: u8 x.b.parent[10] :: u8 x.b.parent[11] :: u8 x.b.parent[12] :: u8 x.b.parent[13] :: u8 x.b.parent[14] :: u8 x.b.parent[15] :: u8 x.b.parent[16] :: u8 x.b.parent[17] :: u8 x.b.parent[18] :: u8 x.b.parent[19] :: u8 x.b.parent[20] :: u8 x.b.parent[21] :: u8 x.b.parent[22] :: u8 x.b.parent[23] :: u8 x.b.parent[24] :: u8 x.b.parent[25] :: u8 x.b.parent[26] :: u8 x.b.parent[27] :: u8 x.b.parent[28] :: u8 x.b.parent[29] :: u8 x.b.parent[30] :: u8 x.b.parent[31] :: x.b.tx.v :: [])
structure OpsS (B : Nat) (w : World) (l : Sl Ops) : Prop where
  row : SlAt B w Ops.c 68 l
  tx : ∀ x ∈ l.l, SlAt B w Id.c 32 x.b.tx
theorem few27_any {B : Nat} {w0 : World} {l : Sl Ops} (h : OpsS B w0 l) : Calls Try.prog 27 #[l.v] w0 fun e w' => ∃ q, (q = true → l.l.length ≤ 100 ∧ ∀ x ∈ l.l, x.b.tx.l.length ≤ 100) ∧ e = .returned (.bool q) ∧ Chg N0 w0 w' := by
  have hp := Hp.start (S := N0) w0
  have hB : ∀ b, N0 b → B ≤ b := fun _ hh => hh.elim
  have us := Try.underlying54
  have hmax : l.l.length ≤ 9223372036854775807 := by have := h.row.le; have := h.row.max; simp only [maxLen] at this; omega
  refine calls_x (args := [_]) tabOk Try.func27 Try.ntmps27 Try.results27 rfl (Nat.le_of_ble_eq_true rfl) ?_
  ((conv => whnf); repeat' ((first | ((with_reducible refine br_id ?_); first | (with_reducible (first | refine br_t ?_ | refine br_f ?_ | refine br_not ?_)) | ((with_reducible (first | refine br_dec (fun hx => ?_) (fun hx => ?_) | refine br_eq (fun hx => ?_) (fun hx => ?_) | refine br_ne (fun hx => ?_) (fun hx => ?_) | refine br_s (fun hx => ?_) (fun hx => ?_))) <;> (try (exfalso; first | omega | exact absurd hx (by assumption) | exact absurd (by assumption) hx)))) | ((with_reducible refine ar_id ?_); first | (refine ar_i64 (by omega) ?_) | (refine ar_u32 (by omega) ?_) | (refine ar_u64 (by omega) ?_) | (refine ar_u8 (by omega) ?_)) | ((with_reducible refine cn_id ?_); first | (refine cn rfl ?_) | (refine cn (by assumption) ?_) | (refine cn (by omega) ?_) | (refine cn (Chg.refl _ _) ?_)) | ((with_reducible refine ld_id ?_); first | (apply ld_hs hp; (focus ((repeat (first | exact Has.here | apply Has.there)); done)); exact rfl) | (refine ld_of (by assumption) ?_)) | ((with_reducible refine ldn_id ?_); first | (apply lda_hs hp; (focus ((repeat (first | exact Has.here | apply Has.there)); done)); exact rfl) | (apply ldn_hs hp; (focus ((repeat (first | exact Has.here | apply Has.there)); done)); exact rfl; exact rfl)) | ((with_reducible refine al_id ?_); first | (refine al_cel hp ?_; clear hp; intro bb w hp)) | ((with_reducible refine st_id ?_); first | (apply sta_hs hp; (focus ((repeat (first | exact Has.here | apply Has.there)); done)); exact rfl; exact rfl; clear hp; intro w hp; (try dsimp only [List.set] at hp)) | (apply st_hs hp; (focus ((repeat (first | exact Has.here | apply Has.there)); done)); exact rfl; exact rfl; clear hp; intro w hp; (try dsimp only [List.set] at hp))) | ((with_reducible refine gen_id ?_); first | (apply gen_build; exact rfl; exact rfl) | (apply gen_len; exact rfl; exact rfl; assumption) | (apply gen_min; exact rfl; exact rfl; exact rfl) | (apply gen_max; exact rfl; exact rfl; exact rfl) | (apply gen_ix; exact rfl; exact rfl; exact rfl; exact rfl; omega) | (apply gen_ixa; exact rfl; exact rfl; exact rfl; exact rfl; omega)) | ((with_reducible refine dr_id ?_); first | (refine dr_auto tabOk (by kernel_rfl) (by decide +kernel) ?_; (try replace hp := hp.drew)) | (refine dr_autog tabOk (by kernel_rfl) (by decide +kernel) ?_; (try replace hp := hp.drew)) | (refine dr_autot tabOk (by kernel_rfl) (by decide +kernel) ?_; (try replace hp := hp.drew))) | ((with_reducible refine fk_id ?_); first | (refine fk_mk ?_ ?_)) | ((with_reducible refine rd_id ?_); first | (apply rd_len; exact rfl; exact rfl; assumption) | (apply rd_ix; exact rfl; exact rfl; exact rfl; exact rfl; omega))) <;> (conv => whnf)))
  refine lp_inv (α := Nat) (fun i => [(0, l.v), (5, l.v), (6, i64 l.l.length), (7, i64 i)]) (fun i w => i ≤ l.l.length ∧ (∀ x ∈ l.l.take i, x.b.tx.l.length ≤ 100) ∧ Hp N0 w0 w []) (fun i => l.l.length - i) 0 (by (repeat' (first | exact trivial | (refine ⟨rfl, ?_⟩)))) ⟨by omega, by simp, hp⟩ ?_
  clear hp
  rintro i e0 w ⟨hi, hall, hp⟩
  dsimp only at hi hall hp ⊢
  rcases Nat.lt_or_ge i l.l.length with hlt | hge
  · obtain ⟨b1, o1, x, hA, hb1, hrow, hxx⟩ := h.row.has hlt
    have hxm := List.mem_of_getElem? hxx
    have hm2 : x.b.tx.l.length ≤ 9223372036854775807 := by have := (h.tx x hxm).le; have := (h.tx x hxm).max; simp only [maxLen] at this; omega
    have hfew := fun (w : World) => fewBlk_any w x.b hm2
    by_cases hf : x.b.tx.l.length ≤ 100
    · rw [decide_eq_true hf] at hfew
      ((conv => whnf); repeat' ((first | ((with_reducible refine br_id ?_); first | (with_reducible (first | refine br_t ?_ | refine br_f ?_ | refine br_not ?_)) | ((with_reducible (first | refine br_dec (fun hx => ?_) (fun hx => ?_) | refine br_eq (fun hx => ?_) (fun hx => ?_) | refine br_ne (fun hx => ?_) (fun hx => ?_) | refine br_s (fun hx => ?_) (fun hx => ?_))) <;> (try (exfalso; first | omega | exact absurd hx (by assumption) | exact absurd (by assumption) hx)))) | ((with_reducible refine ar_id ?_); first | (refine ar_i64 (by omega) ?_) | (refine ar_u32 (by omega) ?_) | (refine ar_u64 (by omega) ?_) | (refine ar_u8 (by omega) ?_)) | ((with_reducible refine cn_id ?_); first | (refine cn rfl ?_) | (refine cn (by assumption) ?_) | (refine cn (by omega) ?_) | (refine cn (Chg.refl _ _) ?_)) | ((with_reducible refine ld_id ?_); first | ((refine ld_row hp hB (by assumption) (by assumption) _ _ rfl (by assumption) (by rfl) ?_)) | ((refine ld_row0 hp hB (by assumption) (by assumption) _ rfl (by assumption) (by rfl) ?_)) | (apply ld_hs hp; (focus ((repeat (first | exact Has.here | apply Has.there)); done)); exact rfl) | (refine ld_of (by assumption) ?_)) | ((with_reducible refine ldn_id ?_); first | ((refine ldn_row hp hB (by assumption) (by assumption) _ _ rfl (by assumption) (by rfl) (by rfl) ?_)) | ((refine ldn_rowx hp hB (by assumption) (by assumption) _ rfl (by assumption) rfl ?_)) | ((refine ldn_row0 hp hB (by assumption) (by assumption) _ rfl (by assumption) (by rfl) (by rfl) ?_)) | (apply lda_hs hp; (focus ((repeat (first | exact Has.here | apply Has.there)); done)); exact rfl) | (apply ldn_hs hp; (focus ((repeat (first | exact Has.here | apply Has.there)); done)); exact rfl; exact rfl)) | ((with_reducible refine al_id ?_); first | (refine al_cel hp ?_; clear hp; intro bb w hp)) | ((with_reducible refine st_id ?_); first | (apply sta_hs hp; (focus ((repeat (first | exact Has.here | apply Has.there)); done)); exact rfl; exact rfl; clear hp; intro w hp; (try dsimp only [List.set] at hp)) | (apply st_hs hp; (focus ((repeat (first | exact Has.here | apply Has.there)); done)); exact rfl; exact rfl; clear hp; intro w hp; (try dsimp only [List.set] at hp))) | ((with_reducible refine gen_id ?_); first | ((refine gen_ixs rfl rfl (by assumption) rfl rfl (by omega) ?_)) | (apply gen_build; exact rfl; exact rfl) | (apply gen_len; exact rfl; exact rfl; assumption) | (apply gen_min; exact rfl; exact rfl; exact rfl) | (apply gen_max; exact rfl; exact rfl; exact rfl) | (apply gen_ix; exact rfl; exact rfl; exact rfl; exact rfl; omega) | (apply gen_ixa; exact rfl; exact rfl; exact rfl; exact rfl; omega)) | ((with_reducible refine dr_id ?_); first | (refine dr_auto tabOk (by kernel_rfl) (by decide +kernel) ?_; (try replace hp := hp.drew)) | (refine dr_autog tabOk (by kernel_rfl) (by decide +kernel) ?_; (try replace hp := hp.drew)) | (refine dr_autot tabOk (by kernel_rfl) (by decide +kernel) ?_; (try replace hp := hp.drew))) | ((with_reducible refine fk_id ?_); first | (refine fk_mk ?_ ?_)) | ((with_reducible refine cl_id ?_); first | ((refine cl_eq ((hfew _)) rfl rfl ?_; rintro e w ⟨rfl, hcc⟩; replace hp := hp.call0 hcc; refine ⟨_, rfl, ?_⟩))) | ((with_reducible refine rd_id ?_); first | ((refine rd_ixs rfl rfl (by assumption) rfl rfl (by omega) ?_)) | (apply rd_len; exact rfl; exact rfl; assumption) | (apply rd_ix; exact rfl; exact rfl; exact rfl; exact rfl; omega))) <;> (conv => whnf)))
      refine lp_next (i + 1) (by show l.l.length - (i + 1) < l.l.length - i; omega) (by (repeat' (first | exact trivial | (refine ⟨rfl, ?_⟩)))) ⟨by show i + 1 ≤ _; omega, fun y hy => ?_, hp.tail⟩
      rw [List.take_add_one, hxx] at hy
      rcases List.mem_append.1 hy with hy | hy
      · exact hall y hy
      · simp at hy
        subst hy
        exact hf
    · rw [decide_eq_false hf] at hfew
      ((conv => whnf); repeat' ((first | ((with_reducible refine br_id ?_); first | (with_reducible (first | refine br_t ?_ | refine br_f ?_ | refine br_not ?_)) | ((with_reducible (first | refine br_dec (fun hx => ?_) (fun hx => ?_) | refine br_eq (fun hx => ?_) (fun hx => ?_) | refine br_ne (fun hx => ?_) (fun hx => ?_) | refine br_s (fun hx => ?_) (fun hx => ?_))) <;> (try (exfalso; first | omega | exact absurd hx (by assumption) | exact absurd (by assumption) hx)))) | ((with_reducible refine ar_id ?_); first | (refine ar_i64 (by omega) ?_) | (refine ar_u32 (by omega) ?_) | (refine ar_u64 (by omega) ?_) | (refine ar_u8 (by omega) ?_)) | ((with_reducible refine cn_id ?_); first | (refine cn rfl ?_) | (refine cn (by assumption) ?_) | (refine cn (by omega) ?_) | (refine cn (Chg.refl _ _) ?_)) | ((with_reducible refine ld_id ?_); first | ((refine ld_row hp hB (by assumption) (by assumption) _ _ rfl (by assumption) (by rfl) ?_)) | ((refine ld_row0 hp hB (by assumption) (by assumption) _ rfl (by assumption) (by rfl) ?_)) | (apply ld_hs hp; (focus ((repeat (first | exact Has.here | apply Has.there)); done)); exact rfl) | (refine ld_of (by assumption) ?_)) | ((with_reducible refine ldn_id ?_); first | ((refine ldn_row hp hB (by assumption) (by assumption) _ _ rfl (by assumption) (by rfl) (by rfl) ?_)) | ((refine ldn_rowx hp hB (by assumption) (by assumption) _ rfl (by assumption) rfl ?_)) | ((refine ldn_row0 hp hB (by assumption) (by assumption) _ rfl (by assumption) (by rfl) (by rfl) ?_)) | (apply lda_hs hp; (focus ((repeat (first | exact Has.here | apply Has.there)); done)); exact rfl) | (apply ldn_hs hp; (focus ((repeat (first | exact Has.here | apply Has.there)); done)); exact rfl; exact rfl)) | ((with_reducible refine al_id ?_); first | (refine al_cel hp ?_; clear hp; intro bb w hp)) | ((with_reducible refine st_id ?_); first | (apply sta_hs hp; (focus ((repeat (first | exact Has.here | apply Has.there)); done)); exact rfl; exact rfl; clear hp; intro w hp; (try dsimp only [List.set] at hp)) | (apply st_hs hp; (focus ((repeat (first | exact Has.here | apply Has.there)); done)); exact rfl; exact rfl; clear hp; intro w hp; (try dsimp only [List.set] at hp))) | ((with_reducible refine gen_id ?_); first | ((refine gen_ixs rfl rfl (by assumption) rfl rfl (by omega) ?_)) | (apply gen_build; exact rfl; exact rfl) | (apply gen_len; exact rfl; exact rfl; assumption) | (apply gen_min; exact rfl; exact rfl; exact rfl) | (apply gen_max; exact rfl; exact rfl; exact rfl) | (apply gen_ix; exact rfl; exact rfl; exact rfl; exact rfl; omega) | (apply gen_ixa; exact rfl; exact rfl; exact rfl; exact rfl; omega)) | ((with_reducible refine dr_id ?_); first | (refine dr_auto tabOk (by kernel_rfl) (by decide +kernel) ?_; (try replace hp := hp.drew)) | (refine dr_autog tabOk (by kernel_rfl) (by decide +kernel) ?_; (try replace hp := hp.drew)) | (refine dr_autot tabOk (by kernel_rfl) (by decide +kernel) ?_; (try replace hp := hp.drew))) | ((with_reducible refine fk_id ?_); first | (refine fk_mk ?_ ?_)) | ((with_reducible refine cl_id ?_); first | ((refine cl_eq ((hfew _)) rfl rfl ?_; rintro e w ⟨rfl, hcc⟩; replace hp := hp.call0 hcc; refine ⟨_, rfl, ?_⟩))) | ((with_reducible refine rd_id ?_); first | ((refine rd_ixs rfl rfl (by assumption) rfl rfl (by omega) ?_)) | (apply rd_len; exact rfl; exact rfl; assumption) | (apply rd_ix; exact rfl; exact rfl; exact rfl; exact rfl; omega))) <;> (conv => whnf)))
      all_goals exact ps_val (v' := .bool false) rfl ⟨false, (fun h => by cases h), rfl, hp.chg⟩
  · rw [List.take_of_length_le (by omega)] at hall
    ((conv => whnf); repeat' ((first | ((with_reducible refine br_id ?_); first | (with_reducible (first | refine br_t ?_ | refine br_f ?_ | refine br_not ?_)) | ((with_reducible (first | refine br_dec (fun hx => ?_) (fun hx => ?_) | refine br_eq (fun hx => ?_) (fun hx => ?_) | refine br_ne (fun hx => ?_) (fun hx => ?_) | refine br_s (fun hx => ?_) (fun hx => ?_))) <;> (try (exfalso; first | omega | exact absurd hx (by assumption) | exact absurd (by assumption) hx)))) | ((with_reducible refine ar_id ?_); first | (refine ar_i64 (by omega) ?_) | (refine ar_u32 (by omega) ?_) | (refine ar_u64 (by omega) ?_) | (refine ar_u8 (by omega) ?_)) | ((with_reducible refine cn_id ?_); first | (refine cn rfl ?_) | (refine cn (by assumption) ?_) | (refine cn (by omega) ?_) | (refine cn (Chg.refl _ _) ?_)) | ((with_reducible refine ld_id ?_); first | (apply ld_hs hp; (focus ((repeat (first | exact Has.here | apply Has.there)); done)); exact rfl) | (refine ld_of (by assumption) ?_)) | ((with_reducible refine ldn_id ?_); first | (apply lda_hs hp; (focus ((repeat (first | exact Has.here | apply Has.there)); done)); exact rfl) | (apply ldn_hs hp; (focus ((repeat (first | exact Has.here | apply Has.there)); done)); exact rfl; exact rfl)) | ((with_reducible refine al_id ?_); first | (refine al_cel hp ?_; clear hp; intro bb w hp)) | ((with_reducible refine st_id ?_); first | (apply sta_hs hp; (focus ((repeat (first | exact Has.here | apply Has.there)); done)); exact rfl; exact rfl; clear hp; intro w hp; (try dsimp only [List.set] at hp)) | (apply st_hs hp; (focus ((repeat (first | exact Has.here | apply Has.there)); done)); exact rfl; exact rfl; clear hp; intro w hp; (try dsimp only [List.set] at hp))) | ((with_reducible refine gen_id ?_); first | (apply gen_build; exact rfl; exact rfl) | (apply gen_len; exact rfl; exact rfl; assumption) | (apply gen_min; exact rfl; exact rfl; exact rfl) | (apply gen_max; exact rfl; exact rfl; exact rfl) | (apply gen_ix; exact rfl; exact rfl; exact rfl; exact rfl; omega) | (apply gen_ixa; exact rfl; exact rfl; exact rfl; exact rfl; omega)) | ((with_reducible refine dr_id ?_); first | (refine dr_auto tabOk (by kernel_rfl) (by decide +kernel) ?_; (try replace hp := hp.drew)) | (refine dr_autog tabOk (by kernel_rfl) (by decide +kernel) ?_; (try replace hp := hp.drew)) | (refine dr_autot tabOk (by kernel_rfl) (by decide +kernel) ?_; (try replace hp := hp.drew))) | ((with_reducible refine fk_id ?_); first | (refine fk_mk ?_ ?_)) | ((with_reducible refine rd_id ?_); first | (apply rd_len; exact rfl; exact rfl; assumption) | (apply rd_ix; exact rfl; exact rfl; exact rfl; exact rfl; omega))) <;> (conv => whnf)))
    all_goals exact ps_val (v' := .bool (decide ((l.l.length : Int) ≤ 100))) rfl ⟨_, (fun h => ⟨by have := of_decide_eq_true h; omega, hall⟩), rfl, hp.chg⟩
/-! ## alike -/
theorem pushE_low {low low' : UInt32} {n : Nat} (h : n = 0 ∨ low' = low) (ht : UInt32) (R : Bool) : pushE low' n ht R = pushE low n ht R := by
  rcases h with rfl | rfl
  · rfl
  · rfl
theorem push_txs {low low' : UInt32} {L : List Blk} (h : L = [] ∨ low' = low) (ht : UInt32) (b : Blk) (R : Bool) : txs (pushL low L ht b R) = pushL low' (txs L) ht b.tx.l R := by
  have hn : (txs L).length = L.length := by unfold txs; rw [List.length_map]
  unfold pushL
  rw [hn, pushE_low (h.imp (fun h0 => by rw [h0]; rfl) id)]
  unfold txs
  split
  · rw [List.map_append]; rfl
  · rfl
theorem pushW_low {α : Type} {low low' : UInt32} {L : List α} (h : L = [] ∨ low' = low) (ht : UInt32) (t : α) (R : Bool) : pushL low L ht t R = [] ∨ pushW low' L.length ht R = pushW low L.length ht R := by
  rcases h with rfl | rfl
  · cases R with
    | false => exact .inl rfl
    | true => exact .inr rfl
  · exact .inr rfl
theorem txs_len (L : List Blk) : (txs L).length = L.length := by unfold txs; rw [List.length_map]
theorem pushL_len {α : Type} (low : UInt32) (L : List α) (ht : UInt32) (t : α) (R : Bool) : (pushL low L ht t R).length ≤ L.length + 1 := by
  unfold pushL
  split <;> simp
theorem pushL_mem {α : Type} {low : UInt32} {L : List α} {ht : UInt32} {t : α} {R : Bool} {x : α} (h : x ∈ pushL low L ht t R) : x ∈ L ∨ x = t := by
  unfold pushL at h
  split at h
  · simpa using h
  · exact .inl h
section
variable {S : Nat → Prop} {w0 w : World} {rs : List Res}
theorem Hp.nilSee {α : Type} (h : Hp S w0 w rs) (sz : Nat) (enc : α → List Value) : Hp S w0 w (seeR sz enc (Sl.nil : Sl α) :: rs) :=
  h.new (Chg.refl _ _) (seeR_ok.2 ⟨SlAt.none_, fun b hb => by cases hb⟩) fun b hb => by have h1 := seeR_dom.1 hb; cases h1
theorem Hp.nilStar (h : Hp S w0 w rs) : Hp S w0 w (star [] :: rs) :=
  h.new (Chg.refl _ _) (star_ok.2 ⟨fun r hr => (List.not_mem_nil hr).elim, .nil⟩) fun b hb => by obtain ⟨r, hr, _⟩ := star_dom.1 hb; cases hr
theorem Hp.merge {a : Res} {T T' : List (Sl Id)} (h : Hp S w0 w (star (a :: T'.map txR) :: star (T.map txR) :: rs)) : Hp S w0 w (a :: star ((T' ++ T).map txR) :: rs) := by
  have u := h.unfold
  have u1 : Hp S w0 w (star (T.map txR) :: ((a :: T'.map txR) ++ rs)) := u.perm List.perm_middle
  have u2 := u1.unfold
  have u3 : Hp S w0 w (((T' ++ T).map txR) ++ (a :: rs)) := by
    refine u2.perm ?_
    rw [List.map_append]
    refine (List.perm_append_comm_assoc _ _ _).trans ?_
    simp only [List.cons_append, List.append_assoc]
    refine List.perm_middle.symm.trans ?_
    exact List.Perm.append_left _ List.perm_middle.symm
  have u4 := u3.fold ((T' ++ T).map txR).length
  rw [List.take_left, List.drop_left] at u4
  exact u4.perm (.swap _ _ _)
theorem tx_out {r : Res} {bs : List Blk} {T : List (Sl Id)} {i j : Nat} (hp : Hp S w0 w rs) (hi : rs[i]? = some r) (hj : rs[j]? = some (star (T.map txR))) (hij : i ≠ j) (hT : ∀ c ∈ bs, c.tx ∈ T) : ∀ c ∈ bs, SlOut r.dom w.heap.size w Id.c 32 c.tx := fun c hc => by
  have h2 := hp.pick (rs' := [r, star (T.map txR)]) [i, j] (by simp [hij]) (by simp [hi, hj])
  have hm : txR c.tx ∈ T.map txR := List.mem_map_of_mem (hT c hc)
  have hok := (star_ok.1 (h2.get (j := 1) rfl)).1 _ hm
  refine ⟨rowR_at hok, fun _ k o hA hd => ?_⟩
  exact (List.pairwise_cons.1 h2.sep).1 _ (by simp) k hd (star_dom.2 ⟨_, hm, rowR_dom.2 (by simp [Sl.v, Value.ownBlock, hA])⟩)
theorem out_in27 {B : Nat} {r : Res} (hp : Hp S w0 w rs) (hS : ∀ b, S b → B ≤ b) (hBw : B ≤ w0.heap.size) (hr : r ∈ rs) {α : Type} {enc : α → List Value} {sz : Nat} {s : Sl α} (h : SlAt B w0 enc sz s) : SlOut r.dom B w enc sz s :=
  ⟨h.keep hp.chg hS, fun hne c o hA hdm => by
    obtain ⟨b', o', h4, h5, _⟩ := h.row hne
    rw [hA] at h4
    cases h4
    rcases hp.own _ hr c hdm with h1 | h1
    · have := hS c h1; omega
    · omega⟩
end
end Go.Proofs.Ytdncnepedkkamaa
/- OpenG: the calls of the law SeenDoes that came in, opened. No condition. -/
namespace Go.Proofs.Ytdncnepedkkamaa
set_option linter.unusedSimpArgs false
set_option linter.unusedVariables false
open Go.RowKit
set_option maxRecDepth 100000
set_option maxHeartbeats 2000000
theorem rdb_ops {H : Type} {enc : TypeId × Value → H} {w : World} {cs : List Value} (h : Rdb enc Try.prog w 67 cs) : ∃ x : Ops, cs = x.c ∧ SlAt w.heap.size w Id.c 32 x.b.tx := by
  obtain ⟨hl, hf⟩ := rdb_struct (fs := Try.prog.fieldsOf 67) (by kernel_rfl) h
  obtain ⟨n, hn, _⟩ := rdb_int Try.underlying3 (cs := (cs.drop 0).take 1) (hf 0 _ rfl)
  obtain ⟨q, hq⟩ := rdb_bool Try.underlying4 (cs := (cs.drop 1).take 1) (hf 1 _ rfl)
  obtain ⟨u, hu⟩ := rdb_u32 (cs := (cs.drop 2).take 1) (hf 2 _ rfl)
  obtain ⟨b, hb, hbt⟩ := rdb_blk (cs := (cs.drop 3).take 65) (hf 3 _ rfl)
  have h3 : cs.drop 68 = [] := List.drop_eq_nil_of_le (by rw [hl]; exact Nat.le_of_eq (by kernel_rfl))
  have h1 := drop_split cs 0 1
  rw [drop_split cs (0 + 1) 1, drop_split cs (0 + 1 + 1) 1, drop_split cs (0 + 1 + 1 + 1) 65, hn, hq, hu, hb, h3, List.drop_zero] at h1
  exact ⟨⟨n, q, u, b⟩, h1, hbt⟩
end Go.Proofs.Ytdncnepedkkamaa
/- Sort0: arrays and rows; swaps; lengths in bits. No condition. -/
namespace Go.Proofs.Ytdncnepedkkamaa
set_option linter.unusedSimpArgs false
set_option linter.unusedVariables false
open Go.RowKit
section
variable {α : Type} [Inhabited α]
theorem sat_ (d : Array α) {i : Nat} (h : i < d.size) : d.toList[i]? = some d[i]! := by
  rw [Array.getElem?_toList, Array.getElem?_eq_getElem h, getElem!_pos d i h]
theorem swp_l (d : Array α) (i j : Nat) : (d.toList.set i d[j]!).set j d[i]! = (Sort.swp d i j).toList := by
  simp [Sort.swp, Array.toList_setIfInBounds]
end
section
variable {α : Type} {S : Nat → Prop} {w0 w : World} {rs : List Res} {enc : α → List Value} {e : TypeId} {sz : Nat} {s : Sl α}
/-- a whole element is written -/
theorem st_ownx {a : Addr} {vs : List Value} {k : World → Prop} (h : Hp S w0 w rs) (j : Nat) (hj : rs[j]? = some (rowR e sz enc s)) {b ofs : Nat} (hA : s.A = some ⟨b, ofs, none⟩) (i : Nat) (ha : a = ⟨b, ofs + i * sz, none⟩) (x' : α) (hv : vs = enc x')
    (hi : i < s.l.length) (hs : ∀ x : α, (enc x).length = sz) (h1 : (enc x').all Value.oneCell' = true) (hk : ∀ w', Hp S w0 w' (rs.set j (rowR e sz enc ⟨s.A, s.c, s.l.set i x'⟩)) → k w') : St w a vs k := by
  subst hv
  refine st_own h j hj hA i 0 (by rw [ha]; rfl) (List.getElem?_eq_getElem hi) x' ?_ (by rw [hs, Nat.zero_add]; exact Nat.le_refl _) h1 hk
  have key : ∀ (vs cs : List Value), cs.length = vs.length → layL vs 0 cs = vs := by
    intro vs cs hl
    have := layL_app vs [] cs [] hl
    simpa using this
  exact (key _ _ (by rw [hs, hs])).symm
/-- an own row has a place, if it holds something -/
theorem own_placeS (h : (rowR e sz enc s).ok w) : s.l.length = 0 ∨ ∃ b o, s.A = some ⟨b, o, none⟩ := by
  rcases Nat.eq_zero_or_pos s.l.length with h0 | h0
  · exact .inl h0
  · obtain ⟨b, o, x, hA, _⟩ := (rowR_at h).has h0
    exact .inr ⟨b, o, hA⟩
end
section
variable {P : Program} {w : World} {ρ : Operand → Value} {o : Oper} {g : Value → World → Prop} {t : TypeId} {x i : Operand}
theorem gen_len8 (hop : o.op = .index t x i) (ht : P.underlying t = some .string) {j : Nat} {k : IntKind} (hx : ρ x = .string Lib.len8tab) (hi : ρ i = .int k j) (hj : j ≤ 255) (hk : g (.int .u8 (Lib.bitLen j : Nat)) w) : Gen P ρ o w g := by
  have h1 := Lib.run_index_len8tab (P := P) w t k j ht (by omega) (by omega)
  have h2 := Lib.len8_eq ⟨j, by omega⟩
  simp only at h2
  rw [h2] at h1
  exact gen_v (by simp [execOp, hop, hx, hi, h1]) hk
end
/-- a length's bits -/
theorem bitLen_small : ∀ n : Fin 256, 2 ^ Lib.bitLen n.val ≤ 2 * n.val + 1 ∧ Lib.bitLen n.val ≤ 8 ∧ (0 < n.val → 2 ^ Lib.bitLen n.val ≤ 2 * n.val) := by decide +kernel
/-! ## The pure sort, step by step -/
section
variable {α : Type} [Inhabited α] {lt : α → α → Bool} {d : Array α}
theorem insOuter_step {a b i : Nat} (h : i < b) : Sort.insOuter lt a b i d = Sort.insOuter lt a b (i + 1) (Sort.insInner lt a i d) := by rw [Sort.insOuter, if_pos h]
theorem insOuter_end {a b i : Nat} (h : b ≤ i) : Sort.insOuter lt a b i d = d := by rw [Sort.insOuter, if_neg (by omega)]
theorem insInner_go {a k : Nat} (h : a < k + 1) (hl : lt d[k + 1]! d[k]! = true) : Sort.insInner lt a (k + 1) d = Sort.insInner lt a k (Sort.swp d (k + 1) k) := by
  rw [Sort.insInner, if_pos (by simp only [Bool.and_eq_true, decide_eq_true_eq]; exact ⟨h, hl⟩)]
theorem insInner_stop {a k : Nat} (hl : lt d[k + 1]! d[k]! = false) : Sort.insInner lt a (k + 1) d = d := by
  rw [Sort.insInner, if_neg (by rw [hl]; simp)]
theorem insInner_low {a j : Nat} (h : j ≤ a) : Sort.insInner lt a j d = d := by
  cases j with
  | zero => rfl
  | succ k => rw [Sort.insInner, if_neg (by simp only [Bool.and_eq_true, decide_eq_true_eq]; omega)]
theorem sift_end {hi first root : Nat} (h : hi ≤ 2 * root + 1) : Sort.siftDown lt hi first root d = d := by
  rw [Sort.siftDown, dif_pos (by omega)]
/-- the greater child, by its place -/
theorem sift_step {hi first root ch : Nat} (h : 2 * root + 1 < hi) (hc : (ch = 2 * root + 2 ∧ 2 * root + 2 < hi ∧ lt d[first + (2 * root + 1)]! d[first + (2 * root + 2)]! = true) ∨ (ch = 2 * root + 1 ∧ (hi ≤ 2 * root + 2 ∨ lt d[first + (2 * root + 1)]! d[first + (2 * root + 2)]! = false))) :
    Sort.siftDown lt hi first root d = if lt d[first + root]! d[first + ch]! = true then Sort.siftDown lt hi first ch (Sort.swp d (first + root) (first + ch)) else d := by
  have e : first + (2 * root + 1) + 1 = first + (2 * root + 2) := by omega
  rw [Sort.siftDown, dif_neg (by omega), e]
  rcases hc with ⟨rfl, h1, h2⟩ | ⟨rfl, h1⟩
  · rw [if_pos (by simp only [Bool.and_eq_true, decide_eq_true_eq]; exact ⟨by omega, h2⟩)]
    cases hl : lt d[first + root]! d[first + (2 * root + 2)]! with
    | true => rw [if_neg (by simp), dif_pos (by omega), if_pos rfl]
    | false => rw [if_pos (by simp), if_neg (by simp)]
  · rw [if_neg (by
      simp only [Bool.and_eq_true, decide_eq_true_eq]
      rintro ⟨h3, h4⟩
      rcases h1 with h1 | h1
      · omega
      · rw [h1] at h4; cases h4)]
    cases hl : lt d[first + root]! d[first + (2 * root + 1)]! with
    | true => rw [if_neg (by simp), if_pos rfl]
    | false => rw [if_pos (by simp), if_neg (by simp)]
theorem sift_size {hi first root : Nat} (d : Array α) : (Sort.siftDown lt hi first root d).size = d.size := by
  fun_induction Sort.siftDown lt hi first root d <;> simp_all [Sort.size_swp]
theorem up_go {p : α → Bool} {i j : Nat} (h : i ≤ j) (hp : p d[i]! = true) : Sort.scanUp p d j i = Sort.scanUp p d j (i + 1) := by
  rw [Sort.scanUp, if_pos (by simp only [Bool.and_eq_true, decide_eq_true_eq]; exact ⟨h, hp⟩)]
theorem up_stop {p : α → Bool} {i j : Nat} (h : j < i ∨ p d[i]! = false) : Sort.scanUp p d j i = i := by
  rw [Sort.scanUp, if_neg (by
    simp only [Bool.and_eq_true, decide_eq_true_eq]
    rintro ⟨h1, h2⟩
    rcases h with h | h
    · omega
    · rw [h] at h2; cases h2)]
theorem down_go {p : α → Bool} {i j : Nat} (h : i ≤ j + 1) (hp : p d[j + 1]! = true) : Sort.scanDown p d i (j + 1) = Sort.scanDown p d i j := by
  rw [Sort.scanDown, if_pos (by simp only [Bool.and_eq_true, decide_eq_true_eq]; exact ⟨h, hp⟩)]
theorem down_stop {p : α → Bool} {i j : Nat} (h : j = 0 ∨ j < i ∨ p d[j]! = false) : Sort.scanDown p d i j = j := by
  cases j with
  | zero => rfl
  | succ j =>
    rw [Sort.scanDown, if_neg (by
      simp only [Bool.and_eq_true, decide_eq_true_eq]
      rintro ⟨h1, h2⟩
      rcases h with h | h | h
      · omega
      · omega
      · rw [h] at h2; cases h2)]
theorem sorted_go {b i : Nat} (h : i < b) (hl : lt d[i]! d[i - 1]! = false) : Sort.scanSorted lt d b i = Sort.scanSorted lt d b (i + 1) := by
  rw [Sort.scanSorted, if_pos (by simp only [Bool.and_eq_true, decide_eq_true_eq, Bool.not_eq_eq_eq_not, Bool.not_true]; exact ⟨h, hl⟩)]
theorem sorted_stop {b i : Nat} (h : b ≤ i ∨ lt d[i]! d[i - 1]! = true) : Sort.scanSorted lt d b i = i := by
  rw [Sort.scanSorted, if_neg (by
    simp only [Bool.and_eq_true, decide_eq_true_eq, Bool.not_eq_eq_eq_not, Bool.not_true]
    rintro ⟨h1, h2⟩
    rcases h with h | h
    · omega
    · rw [h] at h2; cases h2)]
theorem sdown_go {j : Nat} (hl : lt d[j + 1]! d[j]! = true) : Sort.shiftDown lt (j + 1) d = Sort.shiftDown lt j (Sort.swp d (j + 1) j) := by
  rw [Sort.shiftDown, if_neg (by rw [hl]; simp)]
theorem sdown_stop {j : Nat} (hl : lt d[j + 1]! d[j]! = false) : Sort.shiftDown lt (j + 1) d = d := by
  rw [Sort.shiftDown, if_pos (by rw [hl]; simp)]
theorem sup_go {b j : Nat} (h : j < b) (hl : lt d[j]! d[j - 1]! = true) : Sort.shiftUp lt b j d = Sort.shiftUp lt b (j + 1) (Sort.swp d j (j - 1)) := by
  rw [Sort.shiftUp, if_pos h, if_neg (by rw [hl]; simp)]
theorem sup_stop {b j : Nat} (h : b ≤ j ∨ lt d[j]! d[j - 1]! = false) : Sort.shiftUp lt b j d = d := by
  rw [Sort.shiftUp]
  split
  · rcases h with h | h
    · omega
    · rw [if_pos (by rw [h]; simp)]
  · rfl
theorem rev_go {i j : Nat} (h : i < j) : Sort.reverseLoop i j d = Sort.reverseLoop (i + 1) (j - 1) (Sort.swp d i j) := by rw [Sort.reverseLoop, if_pos h]
theorem rev_stop {i j : Nat} (h : j ≤ i) : Sort.reverseLoop i j d = d := by rw [Sort.reverseLoop, if_neg (by omega)]
end
end Go.Proofs.Ytdncnepedkkamaa
