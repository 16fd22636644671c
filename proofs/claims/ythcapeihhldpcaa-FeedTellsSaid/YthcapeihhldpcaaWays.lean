
/- FeedWays: a tree that is alive; the walk of the law. -/
import Derived.Test.YthcapeihhldpcaaWay2
namespace Go.Proofs.Ythcapeihhldpcaa
set_option linter.unusedSimpArgs false
set_option linter.unusedVariables false
open Go.RowKit
set_option maxRecDepth 100000
set_option maxHeartbeats 2000000

def id1 : Id := #v[1, 0, 0, 0, 0, 0, 0, 0, 0, 0, 0, 0, 0, 0, 0, 0, 0, 0, 0, 0, 0, 0, 0, 0, 0, 0, 0, 0, 0, 0, 0, 0]
def id2 : Id := #v[2, 0, 0, 0, 0, 0, 0, 0, 0, 0, 0, 0, 0, 0, 0, 0, 0, 0, 0, 0, 0, 0, 0, 0, 0, 0, 0, 0, 0, 0, 0, 0]
theorem len_of {α β : Type} {f : α → β} {l : List α} {r : List β} (h : l.map f = r) : l.length = r.length := by rw [← h, List.length_map]
theorem alive38_any (w0 : World) : Calls Try.prog 63 #[] w0 fun e w' => e = .returned (.bool true) ∧ Chg N0 w0 w' := by
  have hp := Hp.start (S := N0) w0
  have u1 := Try.underlying176
  refine calls_x (args := []) tabOk Try.func63 Try.ntmps63 Try.results63 rfl (Nat.le_of_ble_eq_true rfl) ?_
  ((conv => whnf); repeat' ((first | ((with_reducible refine br_id ?_); first | (with_reducible (first | refine br_t ?_ | refine br_f ?_ | refine br_not ?_)) | ((with_reducible (first | refine br_dec (fun hx => ?_) (fun hx => ?_) | refine br_eq (fun hx => ?_) (fun hx => ?_) | refine br_ne (fun hx => ?_) (fun hx => ?_) | refine br_s (fun hx => ?_) (fun hx => ?_))) <;> (try (exfalso; first | omega | exact absurd hx (by assumption) | exact absurd (by assumption) hx)))) | ((with_reducible refine ar_id ?_); first | (refine ar_i64 (by omega) ?_) | (refine ar_u32 (by omega) ?_) | (refine ar_u64 (by omega) ?_) | (refine ar_u8 (by omega) ?_)) | ((with_reducible refine cn_id ?_); first | (refine cn rfl ?_) | (refine cn (by assumption) ?_) | (refine cn (by omega) ?_) | (refine cn (Chg.refl _ _) ?_)) | ((with_reducible refine ld_id ?_); first | (apply ld_hs hp; (focus ((repeat (first | exact Has.here | apply Has.there)); done)); exact rfl) | (refine ld_of (by assumption) ?_)) | ((with_reducible refine ldn_id ?_); first | (apply lda_hs hp; (focus ((repeat (first | exact Has.here | apply Has.there)); done)); exact rfl) | (apply ldn_hs hp; (focus ((repeat (first | exact Has.here | apply Has.there)); done)); exact rfl; exact rfl)) | ((with_reducible refine al_id ?_); first | (refine al_cel hp ?_; clear hp; intro bb w hp)) | ((with_reducible refine st_id ?_); first | (apply sta_hs hp; (focus ((repeat (first | exact Has.here | apply Has.there)); done)); exact rfl; exact rfl; clear hp; intro w hp; (try dsimp only [List.set] at hp)) | (apply st_hs hp; (focus ((repeat (first | exact Has.here | apply Has.there)); done)); exact rfl; exact rfl; clear hp; intro w hp; (try dsimp only [List.set] at hp))) | ((with_reducible refine gen_id ?_); first | (apply gen_build; exact rfl; exact rfl) | (apply gen_len; exact rfl; exact rfl; assumption) | (apply gen_min; exact rfl; exact rfl; exact rfl) | (apply gen_max; exact rfl; exact rfl; exact rfl) | (apply gen_ix; exact rfl; exact rfl; exact rfl; exact rfl; omega) | (apply gen_ixa; exact rfl; exact rfl; exact rfl; exact rfl; omega)) | ((with_reducible refine dr_id ?_); first | (refine dr_auto tabOk (by kernel_rfl) (by decide +kernel) ?_; (try replace hp := hp.drew)) | (refine dr_autog tabOk (by kernel_rfl) (by decide +kernel) ?_; (try replace hp := hp.drew)) | (refine dr_autot tabOk (by kernel_rfl) (by decide +kernel) ?_; (try replace hp := hp.drew))) | ((with_reducible refine fk_id ?_); first | (refine fk_mk ?_ ?_)) | ((with_reducible refine rd_id ?_); first | (apply rd_len; exact rfl; exact rfl; assumption) | (apply rd_ix; exact rfl; exact rfl; exact rfl; exact rfl; omega))) <;> (conv => whnf)))
  refine cl_of (new38_any _) ?_
  rintro e w ⟨b, m, rfl, hm⟩
  replace hp := hp.add hm
  refine ⟨_, rfl, ?_⟩
  ((conv => whnf); repeat' ((first | ((with_reducible refine br_id ?_); first | (with_reducible (first | refine br_t ?_ | refine br_f ?_ | refine br_not ?_)) | ((with_reducible (first | refine br_dec (fun hx => ?_) (fun hx => ?_) | refine br_eq (fun hx => ?_) (fun hx => ?_) | refine br_ne (fun hx => ?_) (fun hx => ?_) | refine br_s (fun hx => ?_) (fun hx => ?_))) <;> (try (exfalso; first | omega | exact absurd hx (by assumption) | exact absurd (by assumption) hx)))) | ((with_reducible refine ar_id ?_); first | (refine ar_i64 (by omega) ?_) | (refine ar_u32 (by omega) ?_) | (refine ar_u64 (by omega) ?_) | (refine ar_u8 (by omega) ?_)) | ((with_reducible refine cn_id ?_); first | (refine cn rfl ?_) | (refine cn (by assumption) ?_) | (refine cn (by omega) ?_) | (refine cn (Chg.refl _ _) ?_)) | ((with_reducible refine ld_id ?_); first | (apply ld_hs hp; (focus ((repeat (first | exact Has.here | apply Has.there)); done)); exact rfl) | (refine ld_of (by assumption) ?_)) | ((with_reducible refine ldn_id ?_); first | (apply lda_hs hp; (focus ((repeat (first | exact Has.here | apply Has.there)); done)); exact rfl) | (apply ldn_hs hp; (focus ((repeat (first | exact Has.here | apply Has.there)); done)); exact rfl; exact rfl)) | ((with_reducible refine al_id ?_); first | (refine al_cel hp ?_; clear hp; intro bb w hp)) | ((with_reducible refine st_id ?_); first | (apply sta_hs hp; (focus ((repeat (first | exact Has.here | apply Has.there)); done)); exact rfl; exact rfl; clear hp; intro w hp; (try dsimp only [List.set] at hp)) | (apply st_hs hp; (focus ((repeat (first | exact Has.here | apply Has.there)); done)); exact rfl; exact rfl; clear hp; intro w hp; (try dsimp only [List.set] at hp))) | ((with_reducible refine gen_id ?_); first | ((refine gen_build (t := 58) (out := (Blk.mk id1 Id.z Sl.nil).c) rfl (by kernel_rfl) ?_)) | (apply gen_build; exact rfl; exact rfl) | (apply gen_len; exact rfl; exact rfl; assumption) | (apply gen_min; exact rfl; exact rfl; exact rfl) | (apply gen_max; exact rfl; exact rfl; exact rfl) | (apply gen_ix; exact rfl; exact rfl; exact rfl; exact rfl; omega) | (apply gen_ixa; exact rfl; exact rfl; exact rfl; exact rfl; omega)) | ((with_reducible refine dr_id ?_); first | (refine dr_auto tabOk (by kernel_rfl) (by decide +kernel) ?_; (try replace hp := hp.drew)) | (refine dr_autog tabOk (by kernel_rfl) (by decide +kernel) ?_; (try replace hp := hp.drew)) | (refine dr_autot tabOk (by kernel_rfl) (by decide +kernel) ?_; (try replace hp := hp.drew))) | ((with_reducible refine fk_id ?_); first | (refine fk_mk ?_ ?_)) | ((with_reducible refine rd_id ?_); first | (apply rd_len; exact rfl; exact rfl; assumption) | (apply rd_ix; exact rfl; exact rfl; exact rfl; exact rfl; omega))) <;> (conv => whnf)))
  refine cl_of (add38_any (B := w0.heap.size) (hp.get (j := 0) rfl) (fun c hc => (hp.own (treeR b m []) (by simp) c hc).resolve_left id) ⟨id1, Id.z, Sl.nil⟩ .none_ (by simp [Sl.nil])) ?_
  rw [show treeAddE (mlk ([] : Ents) id1).isSome ⟨id1, Id.z, Sl.nil⟩ = 0 by kernel_rfl]
  rintro e w ⟨l1, rfl, hA1, hm⟩
  obtain ⟨s1, hs1, rfl⟩ : ∃ s1 : Sl Id, s1.l = [] ∧ l1 = [(id1, ⟨id1, Id.z, s1⟩)] := by
    rcases hA1 with ⟨h1, _⟩ | ⟨_, s1, h2, h3⟩
    · exact (h1 (by kernel_rfl)).elim
    · exact ⟨s1, h2, h3⟩
  replace hp := hp.via (j := 0) rfl hm
  dsimp only [List.set] at hp
  refine ⟨_, rfl, ?_⟩
  ((conv => whnf); repeat' ((first | ((with_reducible refine br_id ?_); first | (with_reducible (first | refine br_t ?_ | refine br_f ?_ | refine br_not ?_)) | ((with_reducible (first | refine br_dec (fun hx => ?_) (fun hx => ?_) | refine br_eq (fun hx => ?_) (fun hx => ?_) | refine br_ne (fun hx => ?_) (fun hx => ?_) | refine br_s (fun hx => ?_) (fun hx => ?_))) <;> (try (exfalso; first | omega | exact absurd hx (by assumption) | exact absurd (by assumption) hx)))) | ((with_reducible refine ar_id ?_); first | (refine ar_i64 (by omega) ?_) | (refine ar_u32 (by omega) ?_) | (refine ar_u64 (by omega) ?_) | (refine ar_u8 (by omega) ?_)) | ((with_reducible refine cn_id ?_); first | (refine cn rfl ?_) | (refine cn (by assumption) ?_) | (refine cn (by omega) ?_) | (refine cn (Chg.refl _ _) ?_)) | ((with_reducible refine ld_id ?_); first | (apply ld_hs hp; (focus ((repeat (first | exact Has.here | apply Has.there)); done)); exact rfl) | (refine ld_of (by assumption) ?_)) | ((with_reducible refine ldn_id ?_); first | (apply lda_hs hp; (focus ((repeat (first | exact Has.here | apply Has.there)); done)); exact rfl) | (apply ldn_hs hp; (focus ((repeat (first | exact Has.here | apply Has.there)); done)); exact rfl; exact rfl)) | ((with_reducible refine al_id ?_); first | (refine al_cel hp ?_; clear hp; intro bb w hp)) | ((with_reducible refine st_id ?_); first | (apply sta_hs hp; (focus ((repeat (first | exact Has.here | apply Has.there)); done)); exact rfl; exact rfl; clear hp; intro w hp; (try dsimp only [List.set] at hp)) | (apply st_hs hp; (focus ((repeat (first | exact Has.here | apply Has.there)); done)); exact rfl; exact rfl; clear hp; intro w hp; (try dsimp only [List.set] at hp))) | ((with_reducible refine gen_id ?_); first | ((refine gen_build (t := 58) (out := (Blk.mk id2 id1 Sl.nil).c) rfl (by kernel_rfl) ?_)) | (apply gen_build; exact rfl; exact rfl) | (apply gen_len; exact rfl; exact rfl; assumption) | (apply gen_min; exact rfl; exact rfl; exact rfl) | (apply gen_max; exact rfl; exact rfl; exact rfl) | (apply gen_ix; exact rfl; exact rfl; exact rfl; exact rfl; omega) | (apply gen_ixa; exact rfl; exact rfl; exact rfl; exact rfl; omega)) | ((with_reducible refine dr_id ?_); first | (refine dr_auto tabOk (by kernel_rfl) (by decide +kernel) ?_; (try replace hp := hp.drew)) | (refine dr_autog tabOk (by kernel_rfl) (by decide +kernel) ?_; (try replace hp := hp.drew)) | (refine dr_autot tabOk (by kernel_rfl) (by decide +kernel) ?_; (try replace hp := hp.drew))) | ((with_reducible refine fk_id ?_); first | (refine fk_mk ?_ ?_)) | ((with_reducible refine rd_id ?_); first | (apply rd_len; exact rfl; exact rfl; assumption) | (apply rd_ix; exact rfl; exact rfl; exact rfl; exact rfl; omega))) <;> (conv => whnf)))
  refine cl_of (add38_any (B := w0.heap.size) (hp.get (j := 0) rfl) (fun c hc => (hp.own (treeR b m [(id1, ⟨id1, Id.z, s1⟩)]) (by simp) c hc).resolve_left id) ⟨id2, id1, Sl.nil⟩ .none_ (by simp [Sl.nil])) ?_
  rw [show treeAddE (mlk ([(id1, ⟨id1, Id.z, s1⟩)] : Ents) id2).isSome ⟨id2, id1, Sl.nil⟩ = 0 by kernel_rfl]
  rintro e w ⟨l2, rfl, hA2, hm⟩
  obtain ⟨s2, hs2, rfl⟩ : ∃ s2 : Sl Id, s2.l = [] ∧ l2 = [(id1, ⟨id1, Id.z, s1⟩), (id2, ⟨id2, id1, s2⟩)] := by
    rcases hA2 with ⟨h1, _⟩ | ⟨_, s2, h2, h3⟩
    · exact (h1 (by kernel_rfl)).elim
    · exact ⟨s2, h2, h3⟩
  replace hp := hp.via (j := 0) rfl hm
  dsimp only [List.set] at hp
  refine ⟨_, rfl, ?_⟩
  have hwf : Wf [(id1, ⟨id1, Id.z, s1⟩), (id2, ⟨id2, id1, s2⟩)] := by
    refine ⟨fun p hp => ?_, fun p hp => ?_⟩
    · rcases List.mem_cons.1 hp with rfl | hp
      · show s1.l.length ≤ 100; rw [hs1]; simp
      · simp at hp; subst hp; show s2.l.length ≤ 100; rw [hs2]; simp
    · rcases List.mem_cons.1 hp with rfl | hp
      · rfl
      · simp at hp; subst hp; rfl
  have e1 : lineT [(id1, ⟨id1, Id.z, s1⟩), (id2, ⟨id2, id1, s2⟩)] id1 = [id1] := by kernel_rfl
  have e2 : lineT [(id1, ⟨id1, Id.z, s1⟩), (id2, ⟨id2, id1, s2⟩)] id2 = [id2, id1] := by kernel_rfl
  ((conv => whnf); repeat' ((first | ((with_reducible refine br_id ?_); first | (with_reducible (first | refine br_t ?_ | refine br_f ?_ | refine br_not ?_)) | ((with_reducible (first | refine br_dec (fun hx => ?_) (fun hx => ?_) | refine br_eq (fun hx => ?_) (fun hx => ?_) | refine br_ne (fun hx => ?_) (fun hx => ?_) | refine br_s (fun hx => ?_) (fun hx => ?_))) <;> (try (exfalso; first | omega | exact absurd hx (by assumption) | exact absurd (by assumption) hx)))) | ((with_reducible refine ar_id ?_); first | (refine ar_i64 (by omega) ?_) | (refine ar_u32 (by omega) ?_) | (refine ar_u64 (by omega) ?_) | (refine ar_u8 (by omega) ?_)) | ((with_reducible refine cn_id ?_); first | (refine cn rfl ?_) | (refine cn (by assumption) ?_) | (refine cn (by omega) ?_) | (refine cn (Chg.refl _ _) ?_)) | ((with_reducible refine ld_id ?_); first | (apply ld_hs hp; (focus ((repeat (first | exact Has.here | apply Has.there)); done)); exact rfl) | (refine ld_of (by assumption) ?_)) | ((with_reducible refine ldn_id ?_); first | (apply lda_hs hp; (focus ((repeat (first | exact Has.here | apply Has.there)); done)); exact rfl) | (apply ldn_hs hp; (focus ((repeat (first | exact Has.here | apply Has.there)); done)); exact rfl; exact rfl)) | ((with_reducible refine al_id ?_); first | (refine al_cel hp ?_; clear hp; intro bb w hp)) | ((with_reducible refine st_id ?_); first | (apply sta_hs hp; (focus ((repeat (first | exact Has.here | apply Has.there)); done)); exact rfl; exact rfl; clear hp; intro w hp; (try dsimp only [List.set] at hp)) | (apply st_hs hp; (focus ((repeat (first | exact Has.here | apply Has.there)); done)); exact rfl; exact rfl; clear hp; intro w hp; (try dsimp only [List.set] at hp))) | ((with_reducible refine gen_id ?_); first | (apply gen_build; exact rfl; exact rfl) | (apply gen_len; exact rfl; exact rfl; assumption) | (apply gen_min; exact rfl; exact rfl; exact rfl) | (apply gen_max; exact rfl; exact rfl; exact rfl) | (apply gen_ix; exact rfl; exact rfl; exact rfl; exact rfl; omega) | (apply gen_ixa; exact rfl; exact rfl; exact rfl; exact rfl; omega)) | ((with_reducible refine dr_id ?_); first | (refine dr_auto tabOk (by kernel_rfl) (by decide +kernel) ?_; (try replace hp := hp.drew)) | (refine dr_autog tabOk (by kernel_rfl) (by decide +kernel) ?_; (try replace hp := hp.drew)) | (refine dr_autot tabOk (by kernel_rfl) (by decide +kernel) ?_; (try replace hp := hp.drew))) | ((with_reducible refine fk_id ?_); first | (refine fk_mk ?_ ?_)) | ((with_reducible refine rd_id ?_); first | (apply rd_len; exact rfl; exact rfl; assumption) | (apply rd_ix; exact rfl; exact rfl; exact rfl; exact rfl; omega))) <;> (conv => whnf)))
  refine cl_of (way38_any (treeAt_of (hp.get (j := 0) rfl) hwf) (by simp) id1 id1) ?_
  rw [e1]
  rintro e w ⟨se, conn, rfl, hse, hcn, hm⟩
  rw [show (wayI [id1] [id1]).isSome = true by kernel_rfl]
  have hl1 : se.l.length = 0 := by
    have h1 := len_of hcn
    rw [show wayF [id1] [id1] = [] by kernel_rfl] at h1
    rw [hse, show wayB [id1] [id1] = [] by kernel_rfl]
    simpa using h1
  replace hp := hp.call0 hm.chg
  refine ⟨_, rfl, ?_⟩
  ((conv => whnf); repeat' ((first | ((with_reducible refine br_id ?_); first | (with_reducible (first | refine br_t ?_ | refine br_f ?_ | refine br_not ?_)) | ((with_reducible (first | refine br_dec (fun hx => ?_) (fun hx => ?_) | refine br_eq (fun hx => ?_) (fun hx => ?_) | refine br_ne (fun hx => ?_) (fun hx => ?_) | refine br_s (fun hx => ?_) (fun hx => ?_))) <;> (try (exfalso; first | omega | exact absurd hx (by assumption) | exact absurd (by assumption) hx)))) | ((with_reducible refine ar_id ?_); first | (refine ar_i64 (by omega) ?_) | (refine ar_u32 (by omega) ?_) | (refine ar_u64 (by omega) ?_) | (refine ar_u8 (by omega) ?_)) | ((with_reducible refine cn_id ?_); first | (refine cn rfl ?_) | (refine cn (by assumption) ?_) | (refine cn (by omega) ?_) | (refine cn (Chg.refl _ _) ?_)) | ((with_reducible refine ld_id ?_); first | (apply ld_hs hp; (focus ((repeat (first | exact Has.here | apply Has.there)); done)); exact rfl) | (refine ld_of (by assumption) ?_)) | ((with_reducible refine ldn_id ?_); first | (apply lda_hs hp; (focus ((repeat (first | exact Has.here | apply Has.there)); done)); exact rfl) | (apply ldn_hs hp; (focus ((repeat (first | exact Has.here | apply Has.there)); done)); exact rfl; exact rfl)) | ((with_reducible refine al_id ?_); first | (refine al_cel hp ?_; clear hp; intro bb w hp)) | ((with_reducible refine st_id ?_); first | (apply sta_hs hp; (focus ((repeat (first | exact Has.here | apply Has.there)); done)); exact rfl; exact rfl; clear hp; intro w hp; (try dsimp only [List.set] at hp)) | (apply st_hs hp; (focus ((repeat (first | exact Has.here | apply Has.there)); done)); exact rfl; exact rfl; clear hp; intro w hp; (try dsimp only [List.set] at hp))) | ((with_reducible refine gen_id ?_); first | (apply gen_build; exact rfl; exact rfl) | (apply gen_len; exact rfl; exact rfl; assumption) | (apply gen_min; exact rfl; exact rfl; exact rfl) | (apply gen_max; exact rfl; exact rfl; exact rfl) | (apply gen_ix; exact rfl; exact rfl; exact rfl; exact rfl; omega) | (apply gen_ixa; exact rfl; exact rfl; exact rfl; exact rfl; omega)) | ((with_reducible refine dr_id ?_); first | (refine dr_auto tabOk (by kernel_rfl) (by decide +kernel) ?_; (try replace hp := hp.drew)) | (refine dr_autog tabOk (by kernel_rfl) (by decide +kernel) ?_; (try replace hp := hp.drew)) | (refine dr_autot tabOk (by kernel_rfl) (by decide +kernel) ?_; (try replace hp := hp.drew))) | ((with_reducible refine fk_id ?_); first | (refine fk_mk ?_ ?_)) | ((with_reducible refine rd_id ?_); first | (apply rd_len; exact rfl; exact rfl; assumption) | (apply rd_ix; exact rfl; exact rfl; exact rfl; exact rfl; omega))) <;> (conv => whnf)))
  refine cl_of (way38_any (treeAt_of (hp.get (j := 0) rfl) hwf) (by simp) id1 id2) ?_
  rw [e1, e2]
  rintro e w ⟨se2, conn2, rfl, hse2, hcn2, hm2⟩
  rw [show (wayI [id1] [id2, id1]).isSome = true by kernel_rfl]
  have hl2 : se2.l.length = 1 := by
    have h1 := len_of hcn2
    rw [show wayF [id1] [id2, id1] = [id2] by kernel_rfl] at h1
    rw [hse2, show wayB [id1] [id2, id1] = [] by kernel_rfl]
    simpa using h1
  replace hp := hp.call0 hm2.chg
  refine ⟨_, rfl, ?_⟩
  ((conv => whnf); repeat' ((first | ((with_reducible refine br_id ?_); first | (with_reducible (first | refine br_t ?_ | refine br_f ?_ | refine br_not ?_)) | ((with_reducible (first | refine br_dec (fun hx => ?_) (fun hx => ?_) | refine br_eq (fun hx => ?_) (fun hx => ?_) | refine br_ne (fun hx => ?_) (fun hx => ?_) | refine br_s (fun hx => ?_) (fun hx => ?_))) <;> (try (exfalso; first | omega | exact absurd hx (by assumption) | exact absurd (by assumption) hx)))) | ((with_reducible refine ar_id ?_); first | (refine ar_i64 (by omega) ?_) | (refine ar_u32 (by omega) ?_) | (refine ar_u64 (by omega) ?_) | (refine ar_u8 (by omega) ?_)) | ((with_reducible refine cn_id ?_); first | (refine cn rfl ?_) | (refine cn (by assumption) ?_) | (refine cn (by omega) ?_) | (refine cn (Chg.refl _ _) ?_)) | ((with_reducible refine ld_id ?_); first | (apply ld_hs hp; (focus ((repeat (first | exact Has.here | apply Has.there)); done)); exact rfl) | (refine ld_of (by assumption) ?_)) | ((with_reducible refine ldn_id ?_); first | (apply lda_hs hp; (focus ((repeat (first | exact Has.here | apply Has.there)); done)); exact rfl) | (apply ldn_hs hp; (focus ((repeat (first | exact Has.here | apply Has.there)); done)); exact rfl; exact rfl)) | ((with_reducible refine al_id ?_); first | (refine al_cel hp ?_; clear hp; intro bb w hp)) | ((with_reducible refine st_id ?_); first | (apply sta_hs hp; (focus ((repeat (first | exact Has.here | apply Has.there)); done)); exact rfl; exact rfl; clear hp; intro w hp; (try dsimp only [List.set] at hp)) | (apply st_hs hp; (focus ((repeat (first | exact Has.here | apply Has.there)); done)); exact rfl; exact rfl; clear hp; intro w hp; (try dsimp only [List.set] at hp))) | ((with_reducible refine gen_id ?_); first | (apply gen_build; exact rfl; exact rfl) | (apply gen_len; exact rfl; exact rfl; assumption) | (apply gen_min; exact rfl; exact rfl; exact rfl) | (apply gen_max; exact rfl; exact rfl; exact rfl) | (apply gen_ix; exact rfl; exact rfl; exact rfl; exact rfl; omega) | (apply gen_ixa; exact rfl; exact rfl; exact rfl; exact rfl; omega)) | ((with_reducible refine dr_id ?_); first | (refine dr_auto tabOk (by kernel_rfl) (by decide +kernel) ?_; (try replace hp := hp.drew)) | (refine dr_autog tabOk (by kernel_rfl) (by decide +kernel) ?_; (try replace hp := hp.drew)) | (refine dr_autot tabOk (by kernel_rfl) (by decide +kernel) ?_; (try replace hp := hp.drew))) | ((with_reducible refine fk_id ?_); first | (refine fk_mk ?_ ?_)) | ((with_reducible refine rd_id ?_); first | (apply rd_len; exact rfl; exact rfl; assumption) | (apply rd_ix; exact rfl; exact rfl; exact rfl; exact rfl; omega))) <;> (conv => whnf)))
  refine cl_of (len38_any (treeAt_of (hp.get (j := 0) rfl) hwf)) ?_
  rintro e w ⟨rfl, hc⟩
  replace hp := hp.call0 hc
  refine ⟨_, rfl, ?_⟩
  ((conv => whnf); repeat' ((first | ((with_reducible refine br_id ?_); first | (with_reducible (first | refine br_t ?_ | refine br_f ?_ | refine br_not ?_)) | ((with_reducible (first | refine br_dec (fun hx => ?_) (fun hx => ?_) | refine br_eq (fun hx => ?_) (fun hx => ?_) | refine br_ne (fun hx => ?_) (fun hx => ?_) | refine br_s (fun hx => ?_) (fun hx => ?_))) <;> (try (exfalso; first | omega | exact absurd hx (by assumption) | exact absurd (by assumption) hx)))) | ((with_reducible refine ar_id ?_); first | (refine ar_i64 (by omega) ?_) | (refine ar_u32 (by omega) ?_) | (refine ar_u64 (by omega) ?_) | (refine ar_u8 (by omega) ?_)) | ((with_reducible refine cn_id ?_); first | (refine cn rfl ?_) | (refine cn (by assumption) ?_) | (refine cn (by omega) ?_) | (refine cn (Chg.refl _ _) ?_)) | ((with_reducible refine ld_id ?_); first | (apply ld_hs hp; (focus ((repeat (first | exact Has.here | apply Has.there)); done)); exact rfl) | (refine ld_of (by assumption) ?_)) | ((with_reducible refine ldn_id ?_); first | (apply lda_hs hp; (focus ((repeat (first | exact Has.here | apply Has.there)); done)); exact rfl) | (apply ldn_hs hp; (focus ((repeat (first | exact Has.here | apply Has.there)); done)); exact rfl; exact rfl)) | ((with_reducible refine al_id ?_); first | (refine al_cel hp ?_; clear hp; intro bb w hp)) | ((with_reducible refine st_id ?_); first | (apply sta_hs hp; (focus ((repeat (first | exact Has.here | apply Has.there)); done)); exact rfl; exact rfl; clear hp; intro w hp; (try dsimp only [List.set] at hp)) | (apply st_hs hp; (focus ((repeat (first | exact Has.here | apply Has.there)); done)); exact rfl; exact rfl; clear hp; intro w hp; (try dsimp only [List.set] at hp))) | ((with_reducible refine gen_id ?_); first | (apply gen_build; exact rfl; exact rfl) | (apply gen_len; exact rfl; exact rfl; assumption) | (apply gen_min; exact rfl; exact rfl; exact rfl) | (apply gen_max; exact rfl; exact rfl; exact rfl) | (apply gen_ix; exact rfl; exact rfl; exact rfl; exact rfl; omega) | (apply gen_ixa; exact rfl; exact rfl; exact rfl; exact rfl; omega)) | ((with_reducible refine dr_id ?_); first | (refine dr_auto tabOk (by kernel_rfl) (by decide +kernel) ?_; (try replace hp := hp.drew)) | (refine dr_autog tabOk (by kernel_rfl) (by decide +kernel) ?_; (try replace hp := hp.drew)) | (refine dr_autot tabOk (by kernel_rfl) (by decide +kernel) ?_; (try replace hp := hp.drew))) | ((with_reducible refine fk_id ?_); first | (refine fk_mk ?_ ?_)) | ((with_reducible refine rd_id ?_); first | (apply rd_len; exact rfl; exact rfl; assumption) | (apply rd_ix; exact rfl; exact rfl; exact rfl; exact rfl; omega))) <;> (conv => whnf)))
  exact ps_val (v' := .bool true) rfl ⟨rfl, hp.chg⟩

/-! ## The law -/
def forkX (a c : List Id) : Id := match wayI a c with | some (_, x) => x | none => Id.z
theorem wayI_none {a c : List Id} (h : wayI a c = none) : inter a c = -1 := by
  unfold wayI at h
  cases hi : idxI (fun x => decide (x ∈ c)) a with
  | ofNat j => rw [hi] at h; cases h
  | negSucc j =>
    have := idxI_ge (fun x => decide (x ∈ c)) a
    show idxI (fun x => decide (x ∈ c)) a = -1
    omega
theorem forkV_eq (a c : List Id) : forkV a c = .tuple #[(forkX a c).v, .bool (wayI a c).isSome] := by
  cases h : wayI a c with
  | none => rw [forkV_no (wayI_none h), forkX, h]; rfl
  | some ix =>
    obtain ⟨i, x⟩ := ix
    obtain ⟨h1, h2, _⟩ := wayI_in h
    rw [forkV_at h1 h2, forkX, h]
    rfl
theorem Hp.part {S : Nat → Prop} {w0 w : World} {r : Res} {rs rs' : List Res} (h : Hp S w0 w (star (r :: rs') :: rs)) : Hp S w0 w (r :: star rs' :: rs) := by
  have h1 : Hp S w0 w (rs' ++ (r :: rs)) := (h.unfold).perm (by rw [List.cons_append]; exact (List.perm_middle).symm)
  have h2 := h1.fold rs'.length
  rw [List.take_left, List.drop_left] at h2
  exact h2.perm (List.Perm.swap _ _ _)
/-- both ways: lengths -/
theorem way_len {l : Ents} {a c : List Id} {se : Sl Evt} {conn : List Evt} (h1 : se.l = (wayB a c).map evD ++ conn) (h2 : conn.map evT = (wayF a c).reverse.map (evC l)) : se.l.length = (wayB a c).length + (wayF a c).length := by
  have := len_of h2
  rw [h1]
  simpa using this
theorem plc_in {c : List Id} {x : Id} (h : x ∈ c) : ∃ p : Nat, plc c x = p ∧ c[p]? = some x ∧ ∀ y ∈ c.take p, y ≠ x := by
  have hge : 0 ≤ plc c x := by
    have h1 := idxI_ge (fun y => decide (y = x)) c
    have h2 : ¬ plc c x < 0 := fun hh => by
      have := idxI_lt.1 hh x h
      simp at this
    omega
  obtain ⟨p, hp⟩ : ∃ p : Nat, plc c x = p := ⟨(plc c x).toNat, by omega⟩
  obtain ⟨z, hz, hzx⟩ := idxI_get hp
  have : z = x := by simpa using hzx
  subst this
  exact ⟨p, hp, hz, fun y hy => by simpa using idxI_first hp y hy⟩
theorem way_home {a c : List Id} (h : forkX c a = forkX a c) : (wayB c a).length + (wayF c a).length = (wayB a c).length + (wayF a c).length := by
  cases h1 : wayI a c with
  | none =>
    have hn := wayI_none h1
    have hno : ∀ y ∈ a, y ∉ c := fun y hy hyc => by
      have := idxI_lt.1 (show idxI (fun x => decide (x ∈ c)) a < 0 by rw [show idxI (fun x => decide (x ∈ c)) a = -1 from hn]; omega) y hy
      simp [hyc] at this
    have h2 : wayI c a = none := wayI_no (idxI_miss fun y hy => decide_eq_false fun hya => hno y hya hy)
    rw [wayB, wayB, wayF, wayF, h1, h2]
  | some ix =>
    obtain ⟨i, x⟩ := ix
    obtain ⟨hi, hix, hxc⟩ := wayI_in h1
    have hxa : x ∈ a := List.mem_of_getElem? hix
    cases h2 : wayI c a with
    | none =>
      have hn := wayI_none h2
      have := idxI_lt.1 (show idxI (fun x => decide (x ∈ a)) c < 0 by rw [show idxI (fun x => decide (x ∈ a)) c = -1 from hn]; omega) x hxc
      simp [hxa] at this
    | some jz =>
      obtain ⟨j, z⟩ := jz
      obtain ⟨hj, hjz, hza⟩ := wayI_in h2
      have hzx : z = x := by simpa [forkX, h1, h2] using h
      subst hzx
      obtain ⟨p, hp, hpz, hpf⟩ := plc_in hxc
      obtain ⟨q, hq, hqz, hqf⟩ := plc_in hxa
      have hjp : j = p := by
        rcases Nat.lt_trichotomy j p with hh | hh | hh
        · refine (hpf z (List.mem_of_getElem? (i := j) ?_) rfl).elim
          rw [List.getElem?_take_of_lt hh, hjz]
        · exact hh
        · have := idxI_first hj z (List.mem_of_getElem? (i := p) (by rw [List.getElem?_take_of_lt hh, hpz]))
          simp [hza] at this
      have hiq : i = q := by
        rcases Nat.lt_trichotomy i q with hh | hh | hh
        · refine (hqf z (List.mem_of_getElem? (i := i) ?_) rfl).elim
          rw [List.getElem?_take_of_lt hh, hix]
        · exact hh
        · have := idxI_first hi z (List.mem_of_getElem? (i := q) (by rw [List.getElem?_take_of_lt hh, hqz]))
          simp [hxc] at this
      have l1 := (List.getElem?_eq_some_iff.1 hpz).1
      have l2 := (List.getElem?_eq_some_iff.1 hqz).1
      rw [wayB, wayB, wayF, wayF, h1, h2]
      simp only
      rw [hp, hq, Int.toNat_natCast, Int.toNat_natCast, List.length_take, List.length_take, List.length_take, List.length_take]
      omega
end Go.Proofs.Ythcapeihhldpcaa
