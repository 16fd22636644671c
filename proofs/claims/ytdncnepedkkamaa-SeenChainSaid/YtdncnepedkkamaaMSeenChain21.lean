/- MSeenChain21: Seen1, Rdx. -/
import Derived.Test.YtdncnepedkkamaaMSeenChain20
import Derived.Test.YtdncnepedkkamaaMSeenChain7
import Derived.Test.YtdncnepedkkamaaMSeenChain12
/- Seen1: a block's transactions are struck out. -/
namespace Go.Proofs.Ytdncnepedkkamaa
set_option linter.unusedSimpArgs false
set_option linter.unusedVariables false
open Go.RowKit
set_option maxRecDepth 100000
set_option maxHeartbeats 2000000
/-- what is left of an id's places -/
def stkE (X : Snx) (ht : UInt32) (t : List Id) (x : Id) : List Plc := (idx X.lw x).l.erase ⟨ht, ((t.idxOf x : Nat) : Int)⟩
/-- behind i strikes -/
structure StkI (X : Snx) (ht : UInt32) (t : List Id) (i : Nat) (lw : List (Id × Sl Plc)) (nw : Int) (lh : List (Hint × Sl Id)) (nh : Int) : Prop where
  w : ∀ x, (idx lw x).l = if x ∈ t.take i then stkE X ht t x else (idx X.lw x).l
  h : ∀ k, (idx lh k).l = (idx X.lh k).l.filter fun y => !(decide (y ∈ t.take i) && (stkE X ht t y).isEmpty)
  nw1 : X.nw - i ≤ nw
  nw2 : nw ≤ X.nw
  nh1 : X.nh - i ≤ nh
  nh2 : nh ≤ X.nh
theorem not_take {α : Type} {l : List α} {i : Nat} {x : α} (hd : l.Nodup) (hx : l[i]? = some x) : x ∉ l.take i := fun hm => by
  have h1 : l = l.take i ++ l.drop i := (List.take_append_drop i l).symm
  rw [h1] at hd
  have h2 := (List.nodup_append.1 hd).2.2 x hm
  have h3 : x ∈ l.drop i := by
    refine List.mem_of_getElem? (i := 0) ?_
    rw [List.getElem?_drop]
    exact hx
  exact h2 x h3 rfl
theorem mem_take1 {α : Type} {l : List α} {i : Nat} {x y : α} (hx : l[i]? = some x) : y ∈ l.take (i + 1) ↔ y ∈ l.take i ∨ y = x := by
  rw [List.take_add_one, hx]
  simp
theorem idxOf_nd {α : Type} [BEq α] [LawfulBEq α] {x : α} {l : List α} {i : Nat} (hd : l.Nodup) (hx : l[i]? = some x) : l.idxOf x = i := idxOf_at hx fun y hy e => not_take hd hx (e ▸ hy)
theorem stk_w {X : Snx} {ht : UInt32} {t : List Id} {i : Nat} {lw lw' : List (Id × Sl Plc)} {x : Id} (hd : t.Nodup) (hx : t[i]? = some x) (hw : ∀ x, (idx lw x).l = if x ∈ t.take i then stkE X ht t x else (idx X.lw x).l) (h' : ∀ y, (idx lw' y).l = if y = x then (idx lw x).l.erase ⟨ht, (i : Int)⟩ else (idx lw y).l) :
    ∀ y, (idx lw' y).l = if y ∈ t.take (i + 1) then stkE X ht t y else (idx X.lw y).l := fun y => by
  rw [h' y]
  by_cases hy : y = x
  · subst hy
    rw [if_pos rfl, if_pos ((mem_take1 hx).2 (.inr rfl)), hw, if_neg (not_take hd hx)]
    unfold stkE
    rw [idxOf_nd hd hx]
  · rw [if_neg hy, hw]
    by_cases hm : y ∈ t.take i
    · rw [if_pos hm, if_pos ((mem_take1 hx).2 (.inl hm))]
    · rw [if_neg hm, if_neg fun h => ((mem_take1 hx).1 h).elim hm hy]
theorem stk_h0 {X : Snx} {ht : UInt32} {t : List Id} {i : Nat} {x : Id} {k : Hint} (hx : t[i]? = some x) (he : (stkE X ht t x).isEmpty = false) : (idx X.lh k).l.filter (fun y => !(decide (y ∈ t.take (i + 1)) && (stkE X ht t y).isEmpty)) = (idx X.lh k).l.filter (fun y => !(decide (y ∈ t.take i) && (stkE X ht t y).isEmpty)) := by
  apply List.filter_congr
  intro y _
  by_cases hy : y = x
  · subst hy; rw [he, Bool.and_false, Bool.and_false]
  · have : decide (y ∈ t.take (i + 1)) = decide (y ∈ t.take i) := by
      rw [decide_eq_decide, mem_take1 hx]
      simp [hy]
    rw [this]
theorem stk_h1 {X : Snx} {ht : UInt32} {t : List Id} {i : Nat} {x : Id} {lh lh' : List (Hint × Sl Id)} (hx : t[i]? = some x) (he : (stkE X ht t x).isEmpty = true) (hnd : ∀ k, (idx X.lh k).l.Nodup) (hk : ∀ k y, y ∈ (idx X.lh k).l → hintOf y = k)
    (hh : ∀ k, (idx lh k).l = (idx X.lh k).l.filter fun y => !(decide (y ∈ t.take i) && (stkE X ht t y).isEmpty)) (h' : ∀ k, (idx lh' k).l = if k = hintOf x then (idx lh (hintOf x)).l.erase x else (idx lh k).l) (k : Hint) :
    (idx lh' k).l = (idx X.lh k).l.filter fun y => !(decide (y ∈ t.take (i + 1)) && (stkE X ht t y).isEmpty) := by
  have e : ∀ y, (!(decide (y ∈ t.take (i + 1)) && (stkE X ht t y).isEmpty)) = ((y != x) && !(decide (y ∈ t.take i) && (stkE X ht t y).isEmpty)) := fun y => by
    by_cases hy : y = x
    · subst hy
      have : decide (y ∈ t.take (i + 1)) = true := decide_eq_true ((mem_take1 hx).2 (.inr rfl))
      rw [this, he]
      simp
    · have : decide (y ∈ t.take (i + 1)) = decide (y ∈ t.take i) := by
        rw [decide_eq_decide, mem_take1 hx]
        simp [hy]
      have h2 : (y != x) = true := by simpa using hy
      rw [this, h2, Bool.true_and]
  simp only [e]
  rw [← List.filter_filter, h']
  by_cases hkx : k = hintOf x
  · subst hkx
    rw [if_pos rfl, hh, List.Nodup.erase_eq_filter ((hnd _).filter _)]
  · rw [if_neg hkx, hh]
    symm
    apply List.filter_eq_self.2
    intro y hy
    have hy2 := (List.mem_filter.1 hy).1
    have : y ≠ x := fun e => hkx (by rw [← hk k y hy2, e])
    simpa using this
theorem sstrike_any {w0 : World} {b : Nat} {X : Snx} (h : (star (snRs b X)).ok w0) (ht : UInt32) {B : Blk} {C : Nat} (hB : SlOut (star (snRs b X)).dom C w0 Id.c 32 B.tx) (hd : B.tx.l.Nodup) (hn : B.tx.l.length ≤ 1000)
    (hlw : ∀ x, (idx X.lw x).l.length ≤ 100000) (hlh : ∀ k, (idx X.lh k).l.length ≤ 100000) (hnw : -900000 ≤ X.nw ∧ X.nw ≤ 900000) (hnh : -900000 ≤ X.nh ∧ X.nh ≤ 900000) (hnd : ∀ k, (idx X.lh k).l.Nodup) (hk : ∀ k y, y ∈ (idx X.lh k).l → hintOf y = k) :
    Calls Try.prog 65 #[ptr b, u32 ht, B.v] w0 fun e w' => e = .returned (.tuple #[]) ∧ ∃ lw nw lh nh, StkI X ht B.tx.l B.tx.l.length lw nw lh nh ∧ Mut (star (snRs b X)) (star (snRs b { X with lw := lw, nw := nw, lh := lh, nh := nh })) w0 w' := by
  have hp := Hp.open h
  have us := Try.underlying63
  have us2 := Try.underlying138
  refine calls_x (args := [_, _, _]) tabOk Try.func65 Try.ntmps65 Try.results65 rfl (Nat.le_of_ble_eq_true rfl) ?_
  ((conv => whnf); repeat' ((first | ((with_reducible refine br_id ?_); first | (with_reducible (first | refine br_t ?_ | refine br_f ?_ | refine br_not ?_)) | ((with_reducible (first | refine br_dec (fun hx => ?_) (fun hx => ?_) | refine br_eq (fun hx => ?_) (fun hx => ?_) | refine br_ne (fun hx => ?_) (fun hx => ?_) | refine br_s (fun hx => ?_) (fun hx => ?_))) <;> (try (exfalso; first | omega | exact absurd hx (by assumption) | exact absurd (by assumption) hx)))) | ((with_reducible refine ar_id ?_); first | (refine ar_i64 (by omega) ?_) | (refine ar_u32 (by omega) ?_) | (refine ar_u64 (by omega) ?_) | (refine ar_u8 (by omega) ?_)) | ((with_reducible refine cn_id ?_); first | (refine cn rfl ?_) | (refine cn (by assumption) ?_) | (refine cn (by omega) ?_) | (refine cn (Chg.refl _ _) ?_)) | ((with_reducible refine ld_id ?_); first | (apply ld_hs hp; (focus ((repeat (first | exact Has.here | apply Has.there)); done)); exact rfl) | (refine ld_of (by assumption) ?_)) | ((with_reducible refine ldn_id ?_); first | (apply lda_hs hp; (focus ((repeat (first | exact Has.here | apply Has.there)); done)); exact rfl) | (apply ldn_hs hp; (focus ((repeat (first | exact Has.here | apply Has.there)); done)); exact rfl; exact rfl)) | ((with_reducible refine al_id ?_); first | (refine al_cel hp ?_; clear hp; intro bb w hp)) | ((with_reducible refine st_id ?_); first | (apply sta_hs hp; (focus ((repeat (first | exact Has.here | apply Has.there)); done)); exact rfl; exact rfl; clear hp; intro w hp; (try dsimp only [List.set] at hp)) | (apply st_hs hp; (focus ((repeat (first | exact Has.here | apply Has.there)); done)); exact rfl; exact rfl; clear hp; intro w hp; (try dsimp only [List.set] at hp))) | ((with_reducible refine gen_id ?_); first | (apply gen_build; exact rfl; exact rfl) | (apply gen_len; exact rfl; exact rfl; assumption) | (apply gen_min; exact rfl; exact rfl; exact rfl) | (apply gen_max; exact rfl; exact rfl; exact rfl) | (apply gen_ix; exact rfl; exact rfl; exact rfl; exact rfl; omega) | (apply gen_ixa; exact rfl; exact rfl; exact rfl; exact rfl; omega)) | ((with_reducible refine dr_id ?_); first | (refine dr_auto tabOk (by kernel_rfl) (by decide +kernel) ?_; (try replace hp := hp.drew)) | (refine dr_autog tabOk (by kernel_rfl) (by decide +kernel) ?_; (try replace hp := hp.drew)) | (refine dr_autot tabOk (by kernel_rfl) (by decide +kernel) ?_; (try replace hp := hp.drew))) | ((with_reducible refine fk_id ?_); first | (refine fk_mk ?_ ?_)) | ((with_reducible refine rd_id ?_); first | (apply rd_len; exact rfl; exact rfl; assumption) | (apply rd_ix; exact rfl; exact rfl; exact rfl; exact rfl; omega))) <;> (conv => whnf)))
  replace hp := hp.tail
  refine lp_inv (α := Nat × List (Id × Sl Plc) × Int × List (Hint × Sl Id) × Int) (fun a => [(0, ptr b), (1, u32 ht), (9, B.tx.v), (10, i64 B.tx.l.length), (11, i64 a.1)]) (fun a w => a.1 ≤ B.tx.l.length ∧ StkI X ht B.tx.l a.1 a.2.1 a.2.2.1 a.2.2.2.1 a.2.2.2.2 ∧ Hp (star (snRs b X)).dom w0 w (snRs b { X with lw := a.2.1, nw := a.2.2.1, lh := a.2.2.2.1, nh := a.2.2.2.2 })) (fun a => B.tx.l.length - a.1) (0, X.lw, X.nw, X.lh, X.nh) (by (repeat' (first | exact trivial | (refine ⟨rfl, ?_⟩)))) ⟨by show 0 ≤ _; omega, ⟨fun x => by simp, fun k => (List.filter_eq_self.2 (by simp)).symm, by simp, by simp, by simp, by simp⟩, hp⟩ ?_
  clear hp
  rintro ⟨i, lw, nw, lh, nh⟩ e0 w ⟨hi, hI, hp⟩
  dsimp only at hi hI hp ⊢
  rcases Nat.lt_or_ge i B.tx.l.length with hlt | hge
  · obtain ⟨b1, o1, x, hA, hb1, hrow, hxx⟩ := (hB.keep hp.chg).has (i := i) (by omega)
    have hxl : (Id.c x).length = 32 := rfl
    have hI1 := hI.nw1
    have hI2 := hI.nw2
    have hI3 := hI.nh1
    have hI4 := hI.nh2
    have hst := fun {w : World} (hk : (star (iRsIP X.bw X.mw lw nw)).ok w) => istrIP hk x ⟨ht, (i : Int)⟩ (by rw [hI.w, if_neg (not_take hd hxx)]; exact hlw x) (by omega)
    ((conv => whnf); repeat' ((first | ((with_reducible refine br_id ?_); first | (with_reducible (first | refine br_t ?_ | refine br_f ?_ | refine br_not ?_)) | ((with_reducible (first | refine br_dec (fun hx => ?_) (fun hx => ?_) | refine br_eq (fun hx => ?_) (fun hx => ?_) | refine br_ne (fun hx => ?_) (fun hx => ?_) | refine br_s (fun hx => ?_) (fun hx => ?_))) <;> (try (exfalso; first | omega | exact absurd hx (by assumption) | exact absurd (by assumption) hx)))) | ((with_reducible refine ar_id ?_); first | (refine ar_i64 (by omega) ?_) | (refine ar_u32 (by omega) ?_) | (refine ar_u64 (by omega) ?_) | (refine ar_u8 (by omega) ?_)) | ((with_reducible refine cn_id ?_); first | (refine cn rfl ?_) | (refine cn (by assumption) ?_) | (refine cn (by omega) ?_) | (refine cn (Chg.refl _ _) ?_)) | ((with_reducible refine ld_id ?_); first | (apply ld_hs hp; (focus ((repeat (first | exact Has.here | apply Has.there)); done)); exact rfl) | (refine ld_of (by assumption) ?_)) | ((with_reducible refine ldn_id ?_); first | ((refine ldn_rowat hrow i 0 rfl hxx rfl hxl ?_)) | (apply lda_hs hp; (focus ((repeat (first | exact Has.here | apply Has.there)); done)); exact rfl) | (apply ldn_hs hp; (focus ((repeat (first | exact Has.here | apply Has.there)); done)); exact rfl; exact rfl)) | ((with_reducible refine al_id ?_); first | (refine al_cel hp ?_; clear hp; intro bb w hp)) | ((with_reducible refine st_id ?_); first | (apply sta_hs hp; (focus ((repeat (first | exact Has.here | apply Has.there)); done)); exact rfl; exact rfl; clear hp; intro w hp; (try dsimp only [List.set] at hp)) | (apply st_hs hp; (focus ((repeat (first | exact Has.here | apply Has.there)); done)); exact rfl; exact rfl; clear hp; intro w hp; (try dsimp only [List.set] at hp))) | ((with_reducible refine gen_id ?_); first | ((refine gen_ixs rfl rfl hA rfl rfl (by omega) ?_)) | (apply gen_build; exact rfl; exact rfl) | (apply gen_len; exact rfl; exact rfl; assumption) | (apply gen_min; exact rfl; exact rfl; exact rfl) | (apply gen_max; exact rfl; exact rfl; exact rfl) | (apply gen_ix; exact rfl; exact rfl; exact rfl; exact rfl; omega) | (apply gen_ixa; exact rfl; exact rfl; exact rfl; exact rfl; omega)) | ((with_reducible refine fk_id ?_); first | (refine fk_mk ?_ ?_)) | ((with_reducible refine rd_id ?_); first | (apply rd_len; exact rfl; exact rfl; assumption) | (apply rd_ix; exact rfl; exact rfl; exact rfl; exact rfl; omega))) <;> (conv => whnf)))
    refine dr_autos [] 8 tabOk (by kernel_rfl) (by decide +kernel) ?_
    replace hp := hp.drew
    ((conv => whnf); repeat' ((first | ((with_reducible refine br_id ?_); first | (with_reducible (first | refine br_t ?_ | refine br_f ?_ | refine br_not ?_)) | ((with_reducible (first | refine br_dec (fun hx => ?_) (fun hx => ?_) | refine br_eq (fun hx => ?_) (fun hx => ?_) | refine br_ne (fun hx => ?_) (fun hx => ?_) | refine br_s (fun hx => ?_) (fun hx => ?_))) <;> (try (exfalso; first | omega | exact absurd hx (by assumption) | exact absurd (by assumption) hx)))) | ((with_reducible refine ar_id ?_); first | (refine ar_i64 (by omega) ?_) | (refine ar_u32 (by omega) ?_) | (refine ar_u64 (by omega) ?_) | (refine ar_u8 (by omega) ?_)) | ((with_reducible refine cn_id ?_); first | (refine cn rfl ?_) | (refine cn (by assumption) ?_) | (refine cn (by omega) ?_) | (refine cn (Chg.refl _ _) ?_)) | ((with_reducible refine ld_id ?_); first | (apply ld_hs hp; (focus ((repeat (first | exact Has.here | apply Has.there)); done)); exact rfl) | (refine ld_of (by assumption) ?_)) | ((with_reducible refine ldn_id ?_); first | (apply lda_hs hp; (focus ((repeat (first | exact Has.here | apply Has.there)); done)); exact rfl) | (apply ldn_hs hp; (focus ((repeat (first | exact Has.here | apply Has.there)); done)); exact rfl; exact rfl)) | ((with_reducible refine al_id ?_); first | (refine al_cel hp ?_; clear hp; intro bb w hp)) | ((with_reducible refine st_id ?_); first | (apply sta_hs hp; (focus ((repeat (first | exact Has.here | apply Has.there)); done)); exact rfl; exact rfl; clear hp; intro w hp; (try dsimp only [List.set] at hp)) | (apply st_hs hp; (focus ((repeat (first | exact Has.here | apply Has.there)); done)); exact rfl; exact rfl; clear hp; intro w hp; (try dsimp only [List.set] at hp))) | ((with_reducible refine gen_id ?_); first | (apply gen_build; exact rfl; exact rfl) | (apply gen_len; exact rfl; exact rfl; assumption) | (apply gen_min; exact rfl; exact rfl; exact rfl) | (apply gen_max; exact rfl; exact rfl; exact rfl) | (apply gen_ix; exact rfl; exact rfl; exact rfl; exact rfl; omega) | (apply gen_ixa; exact rfl; exact rfl; exact rfl; exact rfl; omega)) | ((with_reducible refine fk_id ?_); first | (refine fk_mk ?_ ?_)) | ((with_reducible refine cl_id ?_); first | ((refine cl_eq (hst (hp.get (j := 3) rfl)) rfl rfl ?_; rintro e w ⟨q, rfl, lw2, nw2, hn1, hn2, hw2, hmt⟩; replace hp := hp.via (j := 3) rfl hmt; dsimp only [List.set] at hp; replace hmt := hmt.chg; refine ⟨_, rfl, ?_⟩))) | ((with_reducible refine rd_id ?_); first | (apply rd_len; exact rfl; exact rfl; assumption) | (apply rd_ix; exact rfl; exact rfl; exact rfl; exact rfl; omega))) <;> (conv => whnf)))
    have hw3 := stk_w (lw' := lw2) hd hxx hI.w hw2
    have hE : (idx lw2 x).l = stkE X ht B.tx.l x := by rw [hw3, if_pos ((mem_take1 hxx).2 (.inr rfl))]
    have hat := fun {w : World} (hk : (star (iRsIP X.bw X.mw lw2 nw2)).ok w) => iatIP (idxAt hk) x (by rw [hE]; have := hlw x; have h2 := List.length_erase_le (a := (⟨ht, ((B.tx.l.idxOf x : Nat) : Int)⟩ : Plc)) (l := (idx X.lw x).l); show (List.erase _ _).length ≤ _; omega)
    rw [hE] at hat
    obtain ⟨E, hEE⟩ : ∃ E, stkE X ht B.tx.l x = E := ⟨_, rfl⟩
    rw [hEE] at hat
    refine dr_autos [] 1000 tabOk (by kernel_rfl) (by decide +kernel) ?_
    replace hp := hp.drew
    ((conv => whnf); repeat' ((first | ((with_reducible refine br_id ?_); first | (with_reducible (first | refine br_t ?_ | refine br_f ?_ | refine br_not ?_)) | ((with_reducible (first | refine br_dec (fun hx => ?_) (fun hx => ?_) | refine br_eq (fun hx => ?_) (fun hx => ?_) | refine br_ne (fun hx => ?_) (fun hx => ?_) | refine br_s (fun hx => ?_) (fun hx => ?_))) <;> (try (exfalso; first | omega | exact absurd hx (by assumption) | exact absurd (by assumption) hx)))) | ((with_reducible refine ar_id ?_); first | (refine ar_i64 (by omega) ?_) | (refine ar_u32 (by omega) ?_) | (refine ar_u64 (by omega) ?_) | (refine ar_u8 (by omega) ?_)) | ((with_reducible refine cn_id ?_); first | (refine cn rfl ?_) | (refine cn (by assumption) ?_) | (refine cn (by omega) ?_) | (refine cn (Chg.refl _ _) ?_)) | ((with_reducible refine ld_id ?_); first | (apply ld_hs hp; (focus ((repeat (first | exact Has.here | apply Has.there)); done)); exact rfl) | (refine ld_of (by assumption) ?_)) | ((with_reducible refine ldn_id ?_); first | (apply lda_hs hp; (focus ((repeat (first | exact Has.here | apply Has.there)); done)); exact rfl) | (apply ldn_hs hp; (focus ((repeat (first | exact Has.here | apply Has.there)); done)); exact rfl; exact rfl)) | ((with_reducible refine al_id ?_); first | (refine al_cel hp ?_; clear hp; intro bb w hp)) | ((with_reducible refine st_id ?_); first | (apply sta_hs hp; (focus ((repeat (first | exact Has.here | apply Has.there)); done)); exact rfl; exact rfl; clear hp; intro w hp; (try dsimp only [List.set] at hp)) | (apply st_hs hp; (focus ((repeat (first | exact Has.here | apply Has.there)); done)); exact rfl; exact rfl; clear hp; intro w hp; (try dsimp only [List.set] at hp))) | ((with_reducible refine gen_id ?_); first | (apply gen_build; exact rfl; exact rfl) | (apply gen_len; exact rfl; exact rfl; assumption) | (apply gen_min; exact rfl; exact rfl; exact rfl) | (apply gen_max; exact rfl; exact rfl; exact rfl) | (apply gen_ix; exact rfl; exact rfl; exact rfl; exact rfl; omega) | (apply gen_ixa; exact rfl; exact rfl; exact rfl; exact rfl; omega)) | ((with_reducible refine fk_id ?_); first | (refine fk_mk ?_ ?_)) | ((with_reducible refine cl_id ?_); first | ((refine cl_eq (hat (hp.get (j := 3) rfl)) rfl rfl ?_; rintro e w ⟨r, hr, rfl, hmd⟩; replace hp := hp.add hmd; replace hmd := hmd.chg; refine ⟨_, rfl, ?_⟩))) | ((with_reducible refine rd_id ?_); first | (apply rd_len; exact rfl; exact rfl; assumption) | (apply rd_ix; exact rfl; exact rfl; exact rfl; exact rfl; omega))) <;> (conv => whnf)))
    · have hEe : (stkE X ht B.tx.l x).isEmpty = true := by rw [hEE, ← hr, List.isEmpty_iff]; exact List.eq_nil_of_length_eq_zero (by omega)
      have hsh := fun {w : World} (hk' : (star (iRsHI X.bh X.mh lh nh)).ok w) => istrHI hk' (hintOf x) x (by rw [hI.h]; exact Nat.le_trans (List.length_filter_le _ _) (hlh _)) (by omega)
      have hho := fun w => hintof_any w x
      obtain ⟨H, hH⟩ : ∃ H, hintOf x = H := ⟨_, rfl⟩
      rw [hH] at hsh hho
      refine dr_autos [] 7 tabOk (by kernel_rfl) (by decide +kernel) ?_
      replace hp := hp.drew
      ((conv => whnf); repeat' ((first | ((with_reducible refine br_id ?_); first | (with_reducible (first | refine br_t ?_ | refine br_f ?_ | refine br_not ?_)) | ((with_reducible (first | refine br_dec (fun hx => ?_) (fun hx => ?_) | refine br_eq (fun hx => ?_) (fun hx => ?_) | refine br_ne (fun hx => ?_) (fun hx => ?_) | refine br_s (fun hx => ?_) (fun hx => ?_))) <;> (try (exfalso; first | omega | exact absurd hx (by assumption) | exact absurd (by assumption) hx)))) | ((with_reducible refine ar_id ?_); first | (refine ar_i64 (by omega) ?_) | (refine ar_u32 (by omega) ?_) | (refine ar_u64 (by omega) ?_) | (refine ar_u8 (by omega) ?_)) | ((with_reducible refine cn_id ?_); first | (refine cn rfl ?_) | (refine cn (by assumption) ?_) | (refine cn (by omega) ?_) | (refine cn (Chg.refl _ _) ?_)) | ((with_reducible refine ld_id ?_); first | (apply ld_hs hp; (focus ((repeat (first | exact Has.here | apply Has.there)); done)); exact rfl) | (refine ld_of (by assumption) ?_)) | ((with_reducible refine ldn_id ?_); first | (apply lda_hs hp; (focus ((repeat (first | exact Has.here | apply Has.there)); done)); exact rfl) | (apply ldn_hs hp; (focus ((repeat (first | exact Has.here | apply Has.there)); done)); exact rfl; exact rfl)) | ((with_reducible refine al_id ?_); first | (refine al_cel hp ?_; clear hp; intro bb w hp)) | ((with_reducible refine st_id ?_); first | (apply sta_hs hp; (focus ((repeat (first | exact Has.here | apply Has.there)); done)); exact rfl; exact rfl; clear hp; intro w hp; (try dsimp only [List.set] at hp)) | (apply st_hs hp; (focus ((repeat (first | exact Has.here | apply Has.there)); done)); exact rfl; exact rfl; clear hp; intro w hp; (try dsimp only [List.set] at hp))) | ((with_reducible refine gen_id ?_); first | (apply gen_build; exact rfl; exact rfl) | (apply gen_len; exact rfl; exact rfl; assumption) | (apply gen_min; exact rfl; exact rfl; exact rfl) | (apply gen_max; exact rfl; exact rfl; exact rfl) | (apply gen_ix; exact rfl; exact rfl; exact rfl; exact rfl; omega) | (apply gen_ixa; exact rfl; exact rfl; exact rfl; exact rfl; omega)) | ((with_reducible refine dr_id ?_); first | (refine dr_auto tabOk (by kernel_rfl) (by decide +kernel) ?_; (try replace hp := hp.drew)) | (refine dr_autog tabOk (by kernel_rfl) (by decide +kernel) ?_; (try replace hp := hp.drew)) | (refine dr_autot tabOk (by kernel_rfl) (by decide +kernel) ?_; (try replace hp := hp.drew))) | ((with_reducible refine fk_id ?_); first | (refine fk_mk ?_ ?_)) | ((with_reducible refine cl_id ?_); first | ((refine cl_eq ((hho _)) rfl rfl ?_; rintro e w ⟨rfl, hcc⟩; replace hp := hp.call0 hcc; refine ⟨_, rfl, ?_⟩)) | ((refine cl_eq (hsh (hp.get (j := 5) rfl)) rfl rfl ?_; rintro e w ⟨q2, rfl, lh2, nh2, hn3, hn4, hh2, hmt⟩; replace hp := hp.via (j := 5) rfl hmt; dsimp only [List.set] at hp; replace hmt := hmt.chg; refine ⟨_, rfl, ?_⟩))) | ((with_reducible refine rd_id ?_); first | (apply rd_len; exact rfl; exact rfl; assumption) | (apply rd_ix; exact rfl; exact rfl; exact rfl; exact rfl; omega))) <;> (conv => whnf)))
      all_goals
        rw [← hH] at hh2
        exact lp_next (i + 1, lw2, nw2, lh2, nh2) (by show B.tx.l.length - (i + 1) < B.tx.l.length - i; omega) (by (repeat' (first | exact trivial | (refine ⟨rfl, ?_⟩)))) ⟨by show i + 1 ≤ _; omega, ⟨hw3, stk_h1 hxx hEe hnd hk hI.h hh2, by show X.nw - ((i + 1 : Nat) : Int) ≤ nw2; omega, by show nw2 ≤ X.nw; omega, by show X.nh - ((i + 1 : Nat) : Int) ≤ nh2; omega, by show nh2 ≤ X.nh; omega⟩, hp.tail.tail⟩
    · have hEe : (stkE X ht B.tx.l x).isEmpty = false := by rw [hEE, ← hr, List.isEmpty_eq_false_iff]; exact fun e => by rw [e] at hx; exact hx rfl
      exact lp_next (i + 1, lw2, nw2, lh, nh) (by show B.tx.l.length - (i + 1) < B.tx.l.length - i; omega) (by (repeat' (first | exact trivial | (refine ⟨rfl, ?_⟩)))) ⟨by show i + 1 ≤ _; omega, ⟨hw3, fun k => by rw [stk_h0 hxx hEe]; exact hI.h k, by show X.nw - ((i + 1 : Nat) : Int) ≤ nw2; omega, by show nw2 ≤ X.nw; omega, by show X.nh - ((i + 1 : Nat) : Int) ≤ nh; omega, by show nh ≤ X.nh; omega⟩, hp.tail.tail⟩
  · obtain rfl : i = B.tx.l.length := by omega
    ((conv => whnf); repeat' ((first | ((with_reducible refine br_id ?_); first | (with_reducible (first | refine br_t ?_ | refine br_f ?_ | refine br_not ?_)) | ((with_reducible (first | refine br_dec (fun hx => ?_) (fun hx => ?_) | refine br_eq (fun hx => ?_) (fun hx => ?_) | refine br_ne (fun hx => ?_) (fun hx => ?_) | refine br_s (fun hx => ?_) (fun hx => ?_))) <;> (try (exfalso; first | omega | exact absurd hx (by assumption) | exact absurd (by assumption) hx)))) | ((with_reducible refine ar_id ?_); first | (refine ar_i64 (by omega) ?_) | (refine ar_u32 (by omega) ?_) | (refine ar_u64 (by omega) ?_) | (refine ar_u8 (by omega) ?_)) | ((with_reducible refine cn_id ?_); first | (refine cn rfl ?_) | (refine cn (by assumption) ?_) | (refine cn (by omega) ?_) | (refine cn (Chg.refl _ _) ?_)) | ((with_reducible refine ld_id ?_); first | (apply ld_hs hp; (focus ((repeat (first | exact Has.here | apply Has.there)); done)); exact rfl) | (refine ld_of (by assumption) ?_)) | ((with_reducible refine ldn_id ?_); first | (apply lda_hs hp; (focus ((repeat (first | exact Has.here | apply Has.there)); done)); exact rfl) | (apply ldn_hs hp; (focus ((repeat (first | exact Has.here | apply Has.there)); done)); exact rfl; exact rfl)) | ((with_reducible refine al_id ?_); first | (refine al_cel hp ?_; clear hp; intro bb w hp)) | ((with_reducible refine st_id ?_); first | (apply sta_hs hp; (focus ((repeat (first | exact Has.here | apply Has.there)); done)); exact rfl; exact rfl; clear hp; intro w hp; (try dsimp only [List.set] at hp)) | (apply st_hs hp; (focus ((repeat (first | exact Has.here | apply Has.there)); done)); exact rfl; exact rfl; clear hp; intro w hp; (try dsimp only [List.set] at hp))) | ((with_reducible refine gen_id ?_); first | (apply gen_build; exact rfl; exact rfl) | (apply gen_len; exact rfl; exact rfl; assumption) | (apply gen_min; exact rfl; exact rfl; exact rfl) | (apply gen_max; exact rfl; exact rfl; exact rfl) | (apply gen_ix; exact rfl; exact rfl; exact rfl; exact rfl; omega) | (apply gen_ixa; exact rfl; exact rfl; exact rfl; exact rfl; omega)) | ((with_reducible refine dr_id ?_); first | (refine dr_auto tabOk (by kernel_rfl) (by decide +kernel) ?_; (try replace hp := hp.drew)) | (refine dr_autog tabOk (by kernel_rfl) (by decide +kernel) ?_; (try replace hp := hp.drew)) | (refine dr_autot tabOk (by kernel_rfl) (by decide +kernel) ?_; (try replace hp := hp.drew))) | ((with_reducible refine fk_id ?_); first | (refine fk_mk ?_ ?_)) | ((with_reducible refine rd_id ?_); first | (apply rd_len; exact rfl; exact rfl; assumption) | (apply rd_ix; exact rfl; exact rfl; exact rfl; exact rfl; omega))) <;> (conv => whnf)))
    exact ps_val (v' := .tuple #[]) rfl ⟨rfl, lw, nw, lh, nh, hI, hp.shut (.refl _)⟩
end Go.Proofs.Ytdncnepedkkamaa
/- Rdx: readings: an address against nil, a part of a slice, bools apart. No condition. -/
namespace Go.Proofs.Ytdncnepedkkamaa
set_option linter.unusedSimpArgs false
set_option linter.unusedVariables false
open Go.RowKit
set_option maxRecDepth 100000
set_option maxHeartbeats 2000000
theorem rd_ptrn {P : Program} {ρ : Operand → Value} {o : Oper} {w : World} {g : Value → Prop} {t t2 e : TypeId} {x y : Operand} (hop : o.op = .binOp .eql t x y t2) {a : Addr} (hx : ρ x = .pointer (some a)) (hy : ρ y = .pointer none) (ht : P.underlying t = some (.pointer e)) (hk : g (.bool false)) : Rd P ρ o w g := by
  refine ⟨_, fun w' _ => ?_, hk⟩
  have hg : eqGuard .eql t x y (ρ x) (ρ y) = pure () := by rw [hx]; exact eqGuard_at_pointer ..
  have h' := (run_eql_of (P := P) (w := w') (t := t) (eqIn_ptr 9999 ht (some a)) (fun op => by cases op <;> rfl)).1
  rw [hx, hy] at hg
  simp only [execOp, hop, hx, hy, hg, Sem.run_bind, Sem.run_pure, Result.andThen_ok, h']
  rfl
theorem rd_cutbb {α : Type} {P : Program} {w : World} {ρ : Operand → Value} {o : Oper} {g : Value → Prop} {t e : TypeId} {sz bytes : Nat} {x lo hi : Operand} (hop : o.op = .slice t x (some lo) (some hi) none) (hE : ElT P t e sz bytes) (s : Sl α) (hx : ρ x = s.v) (hc : s.l.length ≤ s.c) {k k' : IntKind} {m m' : Int} (hl : ρ lo = .int k m) (hh : ρ hi = .int k' m')
    {l h : Nat} (hm : m = l) (hm' : m' = h) (h1 : l ≤ h) (h2 : h ≤ s.l.length) (hk : g (s.cut sz l h).v) : Rd P ρ o w g := by
  subst hm hm'
  obtain ⟨ht, i, z, hi', _, hs, _⟩ := hE
  exact ⟨_, fun w' _ => run_cut hop ht ⟨i, hi', hs⟩ s hx hc ⟨k, hl⟩ ⟨k', hh⟩ h1 h2, hk⟩
theorem rd_bneq {P : Program} {w : World} {ρ : Operand → Value} {o : Oper} {g : Value → Prop} {t t2 : TypeId} {x y : Operand} (hop : o.op = .binOp .neq t x y t2) {a b : Bool} (hx : ρ x = .bool a) (hy : ρ y = .bool b) (ht : P.underlying t = some .bool) (hk : g (.bool (a != b))) : Rd P ρ o w g := by
  refine rd_bin hop (by rw [hx, hy]; simp [eqGuard]) (fun w' => ?_) hk
  rw [hx, hy]
  exact (run_eql_of (P := P) (w := w') (t := t) (x := .bool a) (y := .bool b) (b := a == b) (eqIn_bool 9999 ht a b) (fun op => by cases op <;> rfl)).2
theorem ge_0 (i : Nat) : (true != decide ((i : Int) ≥ 0)) = false := by
  rw [decide_eq_true (Int.natCast_nonneg i)]
  rfl
theorem ge_1 (i : Nat) : decide ((i : Int) ≥ 0) = true := decide_eq_true (Int.natCast_nonneg i)
end Go.Proofs.Ytdncnepedkkamaa
