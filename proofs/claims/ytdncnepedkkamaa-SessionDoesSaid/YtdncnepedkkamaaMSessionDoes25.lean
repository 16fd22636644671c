/- MSessionDoes25: Ref23b, Rdx, OpS. -/
import Derived.Test.YtdncnepedkkamaaMSessionDoessRef23
import Derived.Test.YtdncnepedkkamaaMSessionDoes21
import Derived.Test.YtdncnepedkkamaaMSessionDoessTailU
import Derived.Test.YtdncnepedkkamaaMSessionDoessSess
import Derived.Test.YtdncnepedkkamaaMSessionDoes6
/- Ref23b: the document's list of sessions: Grant, Use. -/
namespace Go.Proofs.Ytdncnepedkkamaa
set_option linter.unusedSimpArgs false
set_option linter.unusedVariables false
open Go.RowKit
set_option maxRecDepth 100000
set_option maxHeartbeats 4000000
theorem take_wh {α : Type} {p : α → Bool} : ∀ {W : List α} {i : Nat}, i ≤ W.length → (∀ y ∈ W.take i, p y = true) → (∀ x, W[i]? = some x → p x = false) → W.takeWhile p = W.take i ∧ W.dropWhile p = W.drop i
  | [], i, _, _, _ => by simp
  | x :: W, 0, _, _, h => by
    have h0 : p x = false := h x (by simp)
    simp [h0]
  | x :: W, i + 1, hi, hall, h => by
    have h0 : p x = true := hall x (by simp)
    obtain ⟨h1, h2⟩ := take_wh (W := W) (i := i) (by simpa using hi) (fun y hy => hall y (by simp [hy])) (fun y hy => h y (by simpa using hy))
    simp [h0, h1, h2]
theorem rgrant23_no {B : Nat} {w0 : World} {L : Sl Sess} (h : SlAt B w0 Sess.c 4 L) (room : Int) (s : Sess) (hm : L.l.length ≤ 10000) {n : Nat} (hg : grE L.l room s = n) (hn : n ≠ 0) : Calls Try.prog 11 #[L.v, i64 room, s.v] w0 fun e w' => e = .returned (.tuple #[L.v, errno n]) ∧ Chg N0 w0 w' := by
  have hp := Hp.start (S := N0) w0
  have hB : ∀ b, N0 b → B ≤ b := fun _ hh => hh.elim
  have us := Try.underlying26
  have hf := fun {w : World} (hc : Chg N0 w0 w) => rfind23_any (h.keep hc hB) s.id hm
  have hfi : (byId L.l s.id).isSome = decide (0 ≤ fndI L.l s.id) := by
    rcases fnd_cases L.l s.id with ⟨i, x, h1, h2, h3, h4, h5⟩ | ⟨h1, h4, h5⟩
    · rw [h4, h5]; simp
    · rw [h4, h5]; rfl
  obtain ⟨F, hF⟩ : ∃ F, F = fndI L.l s.id := ⟨_, rfl⟩
  rw [← hF] at hf hfi
  have hgv : n = if s.quota.toNat < 1 ∨ 64 < s.quota.toNat ∨ s.quota.toNat < s.used.toNat then 1 else if 0 ≤ F then 6 else if room ≤ L.l.length then 16 else 0 := by
    rw [← hg]
    unfold grE
    rw [hfi]
    simp only [decide_eq_true_eq]
  clear hg hfi hF
  refine calls_x (args := [_, _, _]) tabOk Try.func11 Try.ntmps11 Try.results11 rfl (Nat.le_of_ble_eq_true rfl) ?_
  ((conv => whnf); repeat' ((first | ((with_reducible refine br_id ?_); first | (with_reducible (first | refine br_t ?_ | refine br_f ?_ | refine br_not ?_)) | ((with_reducible (first | refine br_dec (fun hx => ?_) (fun hx => ?_) | refine br_eq (fun hx => ?_) (fun hx => ?_) | refine br_ne (fun hx => ?_) (fun hx => ?_) | refine br_s (fun hx => ?_) (fun hx => ?_))) <;> (try (exfalso; first | omega | exact absurd hx (by assumption) | exact absurd (by assumption) hx)))) | ((with_reducible refine ar_id ?_); first | (refine ar_i64 (by omega) ?_) | (refine ar_u32 (by omega) ?_) | (refine ar_u64 (by omega) ?_) | (refine ar_u8 (by omega) ?_)) | ((with_reducible refine cn_id ?_); first | (refine cn rfl ?_) | (refine cn (by assumption) ?_) | (refine cn (by omega) ?_) | (refine cn (Chg.refl _ _) ?_)) | ((with_reducible refine ld_id ?_); first | (apply ld_hs hp; (focus ((repeat (first | exact Has.here | apply Has.there)); done)); exact rfl) | (refine ld_of (by assumption) ?_)) | ((with_reducible refine ldn_id ?_); first | (apply lda_hs hp; (focus ((repeat (first | exact Has.here | apply Has.there)); done)); exact rfl) | (apply ldn_hs hp; (focus ((repeat (first | exact Has.here | apply Has.there)); done)); exact rfl; exact rfl)) | ((with_reducible refine al_id ?_); first | (refine al_cel hp ?_; clear hp; intro bb w hp)) | ((with_reducible refine st_id ?_); first | (apply sta_hs hp; (focus ((repeat (first | exact Has.here | apply Has.there)); done)); exact rfl; exact rfl; clear hp; intro w hp; (try dsimp only [List.set] at hp)) | (apply st_hs hp; (focus ((repeat (first | exact Has.here | apply Has.there)); done)); exact rfl; exact rfl; clear hp; intro w hp; (try dsimp only [List.set] at hp))) | ((with_reducible refine gen_id ?_); first | (apply gen_build; exact rfl; exact rfl) | (apply gen_len; exact rfl; exact rfl; assumption) | (apply gen_min; exact rfl; exact rfl; exact rfl) | (apply gen_max; exact rfl; exact rfl; exact rfl) | (apply gen_ix; exact rfl; exact rfl; exact rfl; exact rfl; omega) | (apply gen_ixa; exact rfl; exact rfl; exact rfl; exact rfl; omega)) | ((with_reducible refine fk_id ?_); first | (refine fk_mk ?_ ?_)) | ((with_reducible refine cl_id ?_); first | ((refine cl_eq ((hf hp.chg)) rfl rfl ?_; rintro e w ⟨rfl, hcc⟩; replace hp := hp.call0 hcc; refine ⟨_, rfl, ?_⟩))) | ((with_reducible refine rd_id ?_); first | (apply rd_len; exact rfl; exact rfl; assumption) | (apply rd_ix; exact rfl; exact rfl; exact rfl; exact rfl; omega))) <;> (conv => whnf)))
  all_goals first
    | (refine ps_val (v' := .tuple #[L.v, errno 1]) rfl ?_; have hg : n = 1 := (by rw [hgv]; (repeat (first | rw [if_pos (by first | assumption | omega)] | rw [if_neg (by first | assumption | omega | (intro hh; simp_all))]))); rw [hg]; exact ⟨rfl, hp.chg⟩)
    | (refine ps_val (v' := .tuple #[L.v, errno 6]) rfl ?_; have hg : n = 6 := (by rw [hgv]; (repeat (first | rw [if_pos (by first | assumption | omega)] | rw [if_neg (by first | assumption | omega | (intro hh; simp_all))]))); rw [hg]; exact ⟨rfl, hp.chg⟩)
    | (refine ps_val (v' := .tuple #[L.v, errno 16]) rfl ?_; have hg : n = 16 := (by rw [hgv]; (repeat (first | rw [if_pos (by first | assumption | omega)] | rw [if_neg (by first | assumption | omega | (intro hh; simp_all))]))); rw [hg]; exact ⟨rfl, hp.chg⟩)
    | (exfalso; apply hn; rw [hgv]; (repeat (first | rw [if_pos (by first | assumption | omega)] | rw [if_neg (by first | assumption | omega | (intro hh; simp_all))])))
theorem rgrant23_ok {B : Nat} {w0 : World} {L : Sl Sess} (h : SlAt B w0 Sess.c 4 L) (room : Int) (s : Sess) (hm : L.l.length ≤ 10000) (hg : grE L.l room s = 0) : Calls Try.prog 11 #[L.v, i64 room, s.v] w0 fun e w' => ∃ r : Sl Sess, r.l = insW L.l s ∧ e = .returned (.tuple #[r.v, errno 0]) ∧ Made (seeR 4 Sess.c r) w0 w' := by
  have hp := Hp.start (S := N0) w0
  have hB : ∀ b, N0 b → B ≤ b := fun _ hh => hh.elim
  have us := Try.underlying26
  have hf := fun {w : World} (hc : Chg N0 w0 w) => rfind23_any (h.keep hc hB) s.id hm
  have hg1 : ¬ (s.quota.toNat < 1 ∨ 64 < s.quota.toNat ∨ s.quota.toNat < s.used.toNat) := fun hh => by
    unfold grE at hg
    rw [if_pos hh] at hg
    cases hg
  unfold grE at hg
  rw [if_neg hg1] at hg
  have hfi : fndI L.l s.id = -1 := by
    rcases fnd_cases L.l s.id with ⟨i, x, h1, h2, h3, h4, h5⟩ | ⟨h1, h4, h5⟩
    · rw [h4] at hg
      simp at hg
    · exact h5
  have hroom : ¬ room ≤ L.l.length := fun hh => by
    rw [if_pos hh] at hg
    split at hg <;> cases hg
  rw [hfi] at hf
  clear hg
  have hg2 : 1 ≤ s.quota.toNat ∧ s.quota.toNat ≤ 64 ∧ s.used.toNat ≤ s.quota.toNat := by omega
  refine calls_x (args := [_, _, _]) tabOk Try.func11 Try.ntmps11 Try.results11 rfl (Nat.le_of_ble_eq_true rfl) ?_
  ((conv => whnf); repeat' ((first | ((with_reducible refine br_id ?_); first | (with_reducible (first | refine br_t ?_ | refine br_f ?_ | refine br_not ?_)) | ((with_reducible (first | refine br_dec (fun hx => ?_) (fun hx => ?_) | refine br_eq (fun hx => ?_) (fun hx => ?_) | refine br_ne (fun hx => ?_) (fun hx => ?_) | refine br_s (fun hx => ?_) (fun hx => ?_))) <;> (try (exfalso; first | omega | exact absurd hx (by assumption) | exact absurd (by assumption) hx)))) | ((with_reducible refine ar_id ?_); first | (refine ar_i64 (by omega) ?_) | (refine ar_u32 (by omega) ?_) | (refine ar_u64 (by omega) ?_) | (refine ar_u8 (by omega) ?_)) | ((with_reducible refine cn_id ?_); first | (refine cn rfl ?_) | (refine cn (by assumption) ?_) | (refine cn (by omega) ?_) | (refine cn (Chg.refl _ _) ?_)) | ((with_reducible refine ld_id ?_); first | (apply ld_hs hp; (focus ((repeat (first | exact Has.here | apply Has.there)); done)); exact rfl) | (refine ld_of (by assumption) ?_)) | ((with_reducible refine ldn_id ?_); first | (apply lda_hs hp; (focus ((repeat (first | exact Has.here | apply Has.there)); done)); exact rfl) | (apply ldn_hs hp; (focus ((repeat (first | exact Has.here | apply Has.there)); done)); exact rfl; exact rfl)) | ((with_reducible refine al_id ?_); first | (refine al_cel hp ?_; clear hp; intro bb w hp)) | ((with_reducible refine st_id ?_); first | (apply sta_hs hp; (focus ((repeat (first | exact Has.here | apply Has.there)); done)); exact rfl; exact rfl; clear hp; intro w hp; (try dsimp only [List.set] at hp)) | (apply st_hs hp; (focus ((repeat (first | exact Has.here | apply Has.there)); done)); exact rfl; exact rfl; clear hp; intro w hp; (try dsimp only [List.set] at hp))) | ((with_reducible refine gen_id ?_); first | (apply gen_build; exact rfl; exact rfl) | (apply gen_len; exact rfl; exact rfl; assumption) | (apply gen_min; exact rfl; exact rfl; exact rfl) | (apply gen_max; exact rfl; exact rfl; exact rfl) | (apply gen_ix; exact rfl; exact rfl; exact rfl; exact rfl; omega) | (apply gen_ixa; exact rfl; exact rfl; exact rfl; exact rfl; omega)) | ((with_reducible refine fk_id ?_); first | (refine fk_mk ?_ ?_)) | ((with_reducible refine cl_id ?_); first | ((refine cl_eq ((hf hp.chg)) rfl rfl ?_; rintro e w ⟨rfl, hcc⟩; replace hp := hp.call0 hcc; refine ⟨_, rfl, ?_⟩))) | ((with_reducible refine rd_id ?_); first | (apply rd_len; exact rfl; exact rfl; assumption) | (apply rd_ix; exact rfl; exact rfl; exact rfl; exact rfl; omega))) <;> (conv => whnf)))
  obtain ⟨b5, hb5⟩ : ∃ b5, b5 = bb := ⟨_, rfl⟩
  subst hb5
  refine lp_inv (α := Nat) (fun i => [(0, L.v), (5, ptr b5), (8, i64 i)]) (fun i w => i ≤ L.l.length ∧ (∀ y ∈ L.l.take i, ltI s y = true) ∧ Hp N0 w0 w [cel b5 29 (Sess.c s).toArray]) (fun i => L.l.length - i) 0 (by (repeat' (first | exact trivial | (refine ⟨rfl, ?_⟩)))) ⟨by omega, by simp, hp⟩ ?_
  clear hp
  rintro i e0 w ⟨hi, hall, hp⟩
  dsimp only at hi hall hp ⊢
  have hrest : ((∀ x, L.l[i]? = some x → ltI s x = false)) → insW L.l s = (L.l.take i ++ [s]) ++ L.l.drop i := fun hh => by
    obtain ⟨h1, h2⟩ := take_wh hi hall hh
    unfold insW
    rw [h1, h2]
    simp
  have hc1 := h.cut (lo := 0) (hi := i) (by omega) hi
  have hc2 := h.cut (lo := i) (hi := L.l.length) hi (Nat.le_refl _)
  have hcl1 : (L.cut 4 0 i).l = L.l.take i := List.drop_zero
  have hcl2 : (L.cut 4 i L.l.length).l = L.l.drop i := by show (L.l.take L.l.length).drop i = _; rw [List.take_length]
  have hcn1 : (L.cut 4 0 i).l.length = i := by rw [hcl1, List.length_take]; omega
  have hcn2 : (L.cut 4 i L.l.length).l.length = L.l.length - i := by rw [hcl2, List.length_drop]
  rcases Nat.lt_or_ge i L.l.length with hlt | hge
  · obtain ⟨b1, o1, x, hA, hb1, hrow, hxx⟩ := h.has hlt
    by_cases hxi : x.id.toNat < s.id.toNat
    · ((conv => whnf); repeat' ((first | ((with_reducible refine br_id ?_); first | (with_reducible (first | refine br_t ?_ | refine br_f ?_ | refine br_not ?_)) | ((with_reducible (first | refine br_dec (fun hx => ?_) (fun hx => ?_) | refine br_eq (fun hx => ?_) (fun hx => ?_) | refine br_ne (fun hx => ?_) (fun hx => ?_) | refine br_s (fun hx => ?_) (fun hx => ?_))) <;> (try (exfalso; first | omega | exact absurd hx (by assumption) | exact absurd (by assumption) hx)))) | ((with_reducible refine ar_id ?_); first | (refine ar_i64 (by omega) ?_) | (refine ar_u32 (by omega) ?_) | (refine ar_u64 (by omega) ?_) | (refine ar_u8 (by omega) ?_)) | ((with_reducible refine cn_id ?_); first | (refine cn rfl ?_) | (refine cn (by assumption) ?_) | (refine cn (by omega) ?_) | (refine cn (Chg.refl _ _) ?_)) | ((with_reducible refine ld_id ?_); first | ((refine ld_row hp hB (by assumption) (by assumption) _ _ rfl (by assumption) (by rfl) ?_)) | ((refine ld_row0 hp hB (by assumption) (by assumption) _ rfl (by assumption) (by rfl) ?_)) | (apply ld_hs hp; (focus ((repeat (first | exact Has.here | apply Has.there)); done)); exact rfl) | (refine ld_of (by assumption) ?_)) | ((with_reducible refine ldn_id ?_); first | ((refine ldn_row hp hB (by assumption) (by assumption) _ _ rfl (by assumption) (by rfl) (by rfl) ?_)) | ((refine ldn_rowx hp hB (by assumption) (by assumption) _ rfl (by assumption) rfl ?_)) | ((refine ldn_row0 hp hB (by assumption) (by assumption) _ rfl (by assumption) (by rfl) (by rfl) ?_)) | (apply lda_hs hp; (focus ((repeat (first | exact Has.here | apply Has.there)); done)); exact rfl) | (apply ldn_hs hp; (focus ((repeat (first | exact Has.here | apply Has.there)); done)); exact rfl; exact rfl)) | ((with_reducible refine al_id ?_); first | (refine al_cel hp ?_; clear hp; intro bb w hp)) | ((with_reducible refine st_id ?_); first | (apply sta_hs hp; (focus ((repeat (first | exact Has.here | apply Has.there)); done)); exact rfl; exact rfl; clear hp; intro w hp; (try dsimp only [List.set] at hp)) | (apply st_hs hp; (focus ((repeat (first | exact Has.here | apply Has.there)); done)); exact rfl; exact rfl; clear hp; intro w hp; (try dsimp only [List.set] at hp))) | ((with_reducible refine gen_id ?_); first | ((refine gen_ixs rfl rfl (by assumption) rfl rfl (by omega) ?_)) | (apply gen_build; exact rfl; exact rfl) | (apply gen_len; exact rfl; exact rfl; assumption) | (apply gen_min; exact rfl; exact rfl; exact rfl) | (apply gen_max; exact rfl; exact rfl; exact rfl) | (apply gen_ix; exact rfl; exact rfl; exact rfl; exact rfl; omega) | (apply gen_ixa; exact rfl; exact rfl; exact rfl; exact rfl; omega)) | ((with_reducible refine dr_id ?_); first | (refine dr_auto tabOk (by kernel_rfl) (by decide +kernel) ?_; (try replace hp := hp.drew)) | (refine dr_autog tabOk (by kernel_rfl) (by decide +kernel) ?_; (try replace hp := hp.drew)) | (refine dr_autot tabOk (by kernel_rfl) (by decide +kernel) ?_; (try replace hp := hp.drew))) | ((with_reducible refine fk_id ?_); first | (refine fk_mk ?_ ?_)) | ((with_reducible refine rd_id ?_); first | ((refine rd_ixs rfl rfl hA rfl rfl (by omega) ?_)) | ((refine rd_ixs rfl rfl (by assumption) rfl rfl (by omega) ?_)) | (apply rd_len; exact rfl; exact rfl; assumption) | (apply rd_ix; exact rfl; exact rfl; exact rfl; exact rfl; omega))) <;> (conv => whnf)))
      all_goals
        refine lp_next (i + 1) (by show L.l.length - (i + 1) < L.l.length - i; omega) (by (repeat' (first | exact trivial | (refine ⟨rfl, ?_⟩)))) ⟨by show i + 1 ≤ _; omega, fun y hy => ?_, hp⟩
        rw [List.take_add_one, hxx] at hy
        rcases List.mem_append.1 hy with hy | hy
        · exact hall y hy
        · simp at hy
          subst hy
          exact decide_eq_true hxi
    · have hrs := hrest fun y hy => by
        rw [hxx] at hy
        cases hy
        exact decide_eq_false hxi
      ((conv => whnf); repeat' ((first | ((with_reducible refine br_id ?_); first | (with_reducible (first | refine br_t ?_ | refine br_f ?_ | refine br_not ?_)) | ((with_reducible (first | refine br_dec (fun hx => ?_) (fun hx => ?_) | refine br_eq (fun hx => ?_) (fun hx => ?_) | refine br_ne (fun hx => ?_) (fun hx => ?_) | refine br_s (fun hx => ?_) (fun hx => ?_))) <;> (try (exfalso; first | omega | exact absurd hx (by assumption) | exact absurd (by assumption) hx)))) | ((with_reducible refine ar_id ?_); first | (refine ar_i64 (by omega) ?_) | (refine ar_u32 (by omega) ?_) | (refine ar_u64 (by omega) ?_) | (refine ar_u8 (by omega) ?_)) | ((with_reducible refine cn_id ?_); first | (refine cn rfl ?_) | (refine cn (by assumption) ?_) | (refine cn (by omega) ?_) | (refine cn (Chg.refl _ _) ?_)) | ((with_reducible refine ld_id ?_); first | ((refine ld_row hp hB (by assumption) (by assumption) _ _ rfl (by assumption) (by rfl) ?_)) | ((refine ld_row0 hp hB (by assumption) (by assumption) _ rfl (by assumption) (by rfl) ?_)) | (apply ld_hs hp; (focus ((repeat (first | exact Has.here | apply Has.there)); done)); exact rfl) | (refine ld_of (by assumption) ?_)) | ((with_reducible refine ldn_id ?_); first | ((refine ldn_row hp hB (by assumption) (by assumption) _ _ rfl (by assumption) (by rfl) (by rfl) ?_)) | ((refine ldn_rowx hp hB (by assumption) (by assumption) _ rfl (by assumption) rfl ?_)) | ((refine ldn_row0 hp hB (by assumption) (by assumption) _ rfl (by assumption) (by rfl) (by rfl) ?_)) | (apply lda_hs hp; (focus ((repeat (first | exact Has.here | apply Has.there)); done)); exact rfl) | (apply ldn_hs hp; (focus ((repeat (first | exact Has.here | apply Has.there)); done)); exact rfl; exact rfl)) | ((with_reducible refine al_id ?_); first | (refine al_cel hp ?_; clear hp; intro bb w hp)) | ((with_reducible refine st_id ?_); first | (apply sta_hs hp; (focus ((repeat (first | exact Has.here | apply Has.there)); done)); exact rfl; exact rfl; clear hp; intro w hp; (try dsimp only [List.set] at hp)) | (apply st_hs hp; (focus ((repeat (first | exact Has.here | apply Has.there)); done)); exact rfl; exact rfl; clear hp; intro w hp; (try dsimp only [List.set] at hp))) | ((with_reducible refine gen_id ?_); first | ((refine gen_ixs rfl rfl (by assumption) rfl rfl (by omega) ?_)) | ((refine gen_bs rfl hp el_ses Sess.c [] [] rfl rfl rfl (fun _ h => by cases h) (by omega) ?_); clear hp; intro bq w hp) | ((refine gen_bs rfl hp el_ses Sess.c [s] [s.v] rfl rfl rfl (fun _ hh => rfl) (by omega) ?_); clear hp; intro br w hp) | ((refine gen_cuth rfl el_ses L rfl (h.keep hp.chg hB) rfl (h := i) rfl (by omega) ?_)) | ((refine gen_cutl rfl el_ses L rfl (h.keep hp.chg hB) rfl (l := i) rfl (by omega) ?_)) | ((refine gen_appe rfl hp 0 rfl el_ses rfl ⟨rfl, rfl, rfl⟩ (L.cut 4 0 i) rfl (hc1.keep hp.chg hB) (fun _ _ => rfl) ses_one (by omega) (by simp only [maxLen]; omega) ?_); clear hp; intro A1 c1 w hcc hp; dsimp only [List.set] at hp) | ((refine gen_app (s := ⟨A1, c1, (L.cut 4 0 i).l⟩) rfl hp 1 rfl el_ses rfl ⟨some ⟨br, 0, none⟩, 1, [s]⟩ rfl (hp.row (j := 0) rfl) (fun _ _ => rfl) ses_one (by simp only [List.length_cons, List.length_nil]; omega) (by simp only [List.length_cons, List.length_nil, maxLen]; omega) ?_); clear hp; intro A2 c2 w hp; dsimp only [List.set] at hp) | ((refine gen_app (s := ⟨A2, c2, (L.cut 4 0 i).l ++ [s]⟩) rfl hp 1 rfl el_ses rfl (L.cut 4 i L.l.length) rfl (hc2.keep hp.chg hB) (fun _ _ => rfl) ses_one (by simp only [List.length_append, List.length_cons, List.length_nil]; omega) (by simp only [List.length_append, List.length_cons, List.length_nil, maxLen]; omega) ?_); clear hp; intro A3 c3 w hp; dsimp only [List.set] at hp) | (apply gen_build; exact rfl; exact rfl) | (apply gen_len; exact rfl; exact rfl; assumption) | (apply gen_min; exact rfl; exact rfl; exact rfl) | (apply gen_max; exact rfl; exact rfl; exact rfl) | (apply gen_ix; exact rfl; exact rfl; exact rfl; exact rfl; omega) | (apply gen_ixa; exact rfl; exact rfl; exact rfl; exact rfl; omega)) | ((with_reducible refine dr_id ?_); first | (refine dr_auto tabOk (by kernel_rfl) (by decide +kernel) ?_; (try replace hp := hp.drew)) | (refine dr_autog tabOk (by kernel_rfl) (by decide +kernel) ?_; (try replace hp := hp.drew)) | (refine dr_autot tabOk (by kernel_rfl) (by decide +kernel) ?_; (try replace hp := hp.drew))) | ((with_reducible refine fk_id ?_); first | (refine fk_mk ?_ ?_)) | ((with_reducible refine rd_id ?_); first | ((refine rd_ixs rfl rfl hA rfl rfl (by omega) ?_)) | ((refine rd_ixs rfl rfl (by assumption) rfl rfl (by omega) ?_)) | (apply rd_len; exact rfl; exact rfl; assumption) | (apply rd_ix; exact rfl; exact rfl; exact rfl; exact rfl; omega))) <;> (conv => whnf)))
      exact ps_val (v' := .tuple #[Sl.v (α := Sess) ⟨A3, c3, ((L.cut 4 0 i).l ++ [s]) ++ (L.cut 4 i L.l.length).l⟩, errno 0]) rfl ⟨⟨A3, c3, ((L.cut 4 0 i).l ++ [s]) ++ (L.cut 4 i L.l.length).l⟩, by rw [hrs, hcl1, hcl2], rfl, (hp.made1 (j := 1) rfl).see⟩
  · have hrs := hrest fun y hy => by
      rw [List.getElem?_eq_none hge] at hy
      cases hy
    ((conv => whnf); repeat' ((first | ((with_reducible refine br_id ?_); first | (with_reducible (first | refine br_t ?_ | refine br_f ?_ | refine br_not ?_)) | ((with_reducible (first | refine br_dec (fun hx => ?_) (fun hx => ?_) | refine br_eq (fun hx => ?_) (fun hx => ?_) | refine br_ne (fun hx => ?_) (fun hx => ?_) | refine br_s (fun hx => ?_) (fun hx => ?_))) <;> (try (exfalso; first | omega | exact absurd hx (by assumption) | exact absurd (by assumption) hx)))) | ((with_reducible refine ar_id ?_); first | (refine ar_i64 (by omega) ?_) | (refine ar_u32 (by omega) ?_) | (refine ar_u64 (by omega) ?_) | (refine ar_u8 (by omega) ?_)) | ((with_reducible refine cn_id ?_); first | (refine cn rfl ?_) | (refine cn (by assumption) ?_) | (refine cn (by omega) ?_) | (refine cn (Chg.refl _ _) ?_)) | ((with_reducible refine ld_id ?_); first | (apply ld_hs hp; (focus ((repeat (first | exact Has.here | apply Has.there)); done)); exact rfl) | (refine ld_of (by assumption) ?_)) | ((with_reducible refine ldn_id ?_); first | (apply lda_hs hp; (focus ((repeat (first | exact Has.here | apply Has.there)); done)); exact rfl) | (apply ldn_hs hp; (focus ((repeat (first | exact Has.here | apply Has.there)); done)); exact rfl; exact rfl)) | ((with_reducible refine al_id ?_); first | (refine al_cel hp ?_; clear hp; intro bb w hp)) | ((with_reducible refine st_id ?_); first | (apply sta_hs hp; (focus ((repeat (first | exact Has.here | apply Has.there)); done)); exact rfl; exact rfl; clear hp; intro w hp; (try dsimp only [List.set] at hp)) | (apply st_hs hp; (focus ((repeat (first | exact Has.here | apply Has.there)); done)); exact rfl; exact rfl; clear hp; intro w hp; (try dsimp only [List.set] at hp))) | ((with_reducible refine gen_id ?_); first | ((refine gen_bs rfl hp el_ses Sess.c [] [] rfl rfl rfl (fun _ h => by cases h) (by omega) ?_); clear hp; intro bq w hp) | ((refine gen_bs rfl hp el_ses Sess.c [s] [s.v] rfl rfl rfl (fun _ hh => rfl) (by omega) ?_); clear hp; intro br w hp) | ((refine gen_cuth rfl el_ses L rfl (h.keep hp.chg hB) rfl (h := i) rfl (by omega) ?_)) | ((refine gen_cutl rfl el_ses L rfl (h.keep hp.chg hB) rfl (l := i) rfl (by omega) ?_)) | ((refine gen_appe rfl hp 0 rfl el_ses rfl ⟨rfl, rfl, rfl⟩ (L.cut 4 0 i) rfl (hc1.keep hp.chg hB) (fun _ _ => rfl) ses_one (by omega) (by simp only [maxLen]; omega) ?_); clear hp; intro A1 c1 w hcc hp; dsimp only [List.set] at hp) | ((refine gen_app (s := ⟨A1, c1, (L.cut 4 0 i).l⟩) rfl hp 1 rfl el_ses rfl ⟨some ⟨br, 0, none⟩, 1, [s]⟩ rfl (hp.row (j := 0) rfl) (fun _ _ => rfl) ses_one (by simp only [List.length_cons, List.length_nil]; omega) (by simp only [List.length_cons, List.length_nil, maxLen]; omega) ?_); clear hp; intro A2 c2 w hp; dsimp only [List.set] at hp) | ((refine gen_app (s := ⟨A2, c2, (L.cut 4 0 i).l ++ [s]⟩) rfl hp 1 rfl el_ses rfl (L.cut 4 i L.l.length) rfl (hc2.keep hp.chg hB) (fun _ _ => rfl) ses_one (by simp only [List.length_append, List.length_cons, List.length_nil]; omega) (by simp only [List.length_append, List.length_cons, List.length_nil, maxLen]; omega) ?_); clear hp; intro A3 c3 w hp; dsimp only [List.set] at hp) | (apply gen_build; exact rfl; exact rfl) | (apply gen_len; exact rfl; exact rfl; assumption) | (apply gen_min; exact rfl; exact rfl; exact rfl) | (apply gen_max; exact rfl; exact rfl; exact rfl) | (apply gen_ix; exact rfl; exact rfl; exact rfl; exact rfl; omega) | (apply gen_ixa; exact rfl; exact rfl; exact rfl; exact rfl; omega)) | ((with_reducible refine dr_id ?_); first | (refine dr_auto tabOk (by kernel_rfl) (by decide +kernel) ?_; (try replace hp := hp.drew)) | (refine dr_autog tabOk (by kernel_rfl) (by decide +kernel) ?_; (try replace hp := hp.drew)) | (refine dr_autot tabOk (by kernel_rfl) (by decide +kernel) ?_; (try replace hp := hp.drew))) | ((with_reducible refine fk_id ?_); first | (refine fk_mk ?_ ?_)) | ((with_reducible refine rd_id ?_); first | (apply rd_len; exact rfl; exact rfl; assumption) | (apply rd_ix; exact rfl; exact rfl; exact rfl; exact rfl; omega))) <;> (conv => whnf)))
    exact ps_val (v' := .tuple #[Sl.v (α := Sess) ⟨A3, c3, ((L.cut 4 0 i).l ++ [s]) ++ (L.cut 4 i L.l.length).l⟩, errno 0]) rfl ⟨⟨A3, c3, ((L.cut 4 0 i).l ++ [s]) ++ (L.cut 4 i L.l.length).l⟩, by rw [hrs, hcl1, hcl2], rfl, (hp.made1 (j := 1) rfl).see⟩
theorem ruse23_no {B : Nat} {w0 : World} {L : Sl Sess} (h : SlAt B w0 Sess.c 4 L) (id seq height : UInt32) (hm : L.l.length ≤ 10000) (hu : ∀ s ∈ L.l, s.used.toNat ≤ s.quota.toNat) (hn : mayO (byId L.l id) seq height ≠ 0) : Calls Try.prog 13 #[L.v, u32 id, u32 seq, u32 height] w0 fun e w' => e = .returned (.tuple #[L.v, errno (mayO (byId L.l id) seq height)]) ∧ Chg N0 w0 w' := by
  have hp := Hp.start (S := N0) w0
  have hB : ∀ b, N0 b → B ≤ b := fun _ hh => hh.elim
  have us := Try.underlying26
  have hf := fun {w : World} (hc : Chg N0 w0 w) => rmay23_any (h.keep hc hB) id seq height hm hu
  obtain ⟨n, hn'⟩ : ∃ n, n = mayO (byId L.l id) seq height := ⟨_, rfl⟩
  rw [← hn'] at hf hn ⊢
  refine calls_x (args := [_, _, _, _]) tabOk Try.func13 Try.ntmps13 Try.results13 rfl (Nat.le_of_ble_eq_true rfl) ?_
  ((conv => whnf); repeat' ((first | ((with_reducible refine br_id ?_); first | (with_reducible (first | refine br_t ?_ | refine br_f ?_ | refine br_not ?_)) | ((with_reducible (first | refine br_dec (fun hx => ?_) (fun hx => ?_) | refine br_eq (fun hx => ?_) (fun hx => ?_) | refine br_ne (fun hx => ?_) (fun hx => ?_) | refine br_s (fun hx => ?_) (fun hx => ?_))) <;> (try (exfalso; first | omega | exact absurd hx (by assumption) | exact absurd (by assumption) hx)))) | ((with_reducible refine ar_id ?_); first | (refine ar_i64 (by omega) ?_) | (refine ar_u32 (by omega) ?_) | (refine ar_u64 (by omega) ?_) | (refine ar_u8 (by omega) ?_)) | ((with_reducible refine cn_id ?_); first | (refine cn rfl ?_) | (refine cn (by assumption) ?_) | (refine cn (by omega) ?_) | (refine cn (Chg.refl _ _) ?_)) | ((with_reducible refine ld_id ?_); first | (apply ld_hs hp; (focus ((repeat (first | exact Has.here | apply Has.there)); done)); exact rfl) | (refine ld_of (by assumption) ?_)) | ((with_reducible refine ldn_id ?_); first | (apply lda_hs hp; (focus ((repeat (first | exact Has.here | apply Has.there)); done)); exact rfl) | (apply ldn_hs hp; (focus ((repeat (first | exact Has.here | apply Has.there)); done)); exact rfl; exact rfl)) | ((with_reducible refine al_id ?_); first | (refine al_cel hp ?_; clear hp; intro bb w hp)) | ((with_reducible refine st_id ?_); first | (apply sta_hs hp; (focus ((repeat (first | exact Has.here | apply Has.there)); done)); exact rfl; exact rfl; clear hp; intro w hp; (try dsimp only [List.set] at hp)) | (apply st_hs hp; (focus ((repeat (first | exact Has.here | apply Has.there)); done)); exact rfl; exact rfl; clear hp; intro w hp; (try dsimp only [List.set] at hp))) | ((with_reducible refine gen_id ?_); first | (apply gen_build; exact rfl; exact rfl) | (apply gen_len; exact rfl; exact rfl; assumption) | (apply gen_min; exact rfl; exact rfl; exact rfl) | (apply gen_max; exact rfl; exact rfl; exact rfl) | (apply gen_ix; exact rfl; exact rfl; exact rfl; exact rfl; omega) | (apply gen_ixa; exact rfl; exact rfl; exact rfl; exact rfl; omega)) | ((with_reducible refine dr_id ?_); first | (refine dr_auto tabOk (by kernel_rfl) (by decide +kernel) ?_; (try replace hp := hp.drew)) | (refine dr_autog tabOk (by kernel_rfl) (by decide +kernel) ?_; (try replace hp := hp.drew)) | (refine dr_autot tabOk (by kernel_rfl) (by decide +kernel) ?_; (try replace hp := hp.drew))) | ((with_reducible refine fk_id ?_); first | (refine fk_mk ?_ ?_)) | ((with_reducible refine cl_id ?_); first | ((refine cl_eq ((hf hp.chg)) rfl rfl ?_; rintro e w ⟨rfl, hcc⟩; replace hp := hp.call0 hcc; refine ⟨_, rfl, ?_⟩))) | ((with_reducible refine rd_id ?_); first | (apply rd_len; exact rfl; exact rfl; assumption) | (apply rd_ix; exact rfl; exact rfl; exact rfl; exact rfl; omega))) <;> (conv => whnf)))
  all_goals exact ps_val (v' := .tuple #[L.v, errno n]) rfl ⟨rfl, hp.chg⟩
theorem ruse23_ok {B : Nat} {w0 : World} {L : Sl Sess} (h : SlAt B w0 Sess.c 4 L) (id seq height : UInt32) (hm : L.l.length ≤ 10000) (hu : ∀ s ∈ L.l, s.used.toNat ≤ s.quota.toNat) (ho : L.l.Pairwise fun x y => x.id.toNat < y.id.toNat) (hn : mayO (byId L.l id) seq height = 0) : Calls Try.prog 13 #[L.v, u32 id, u32 seq, u32 height] w0 fun e w' => ∃ r : Sl Sess, r.l = useW L.l id seq height ∧ e = .returned (.tuple #[r.v, errno 0]) ∧ Made (seeR 4 Sess.c r) w0 w' := by
  have hp := Hp.start (S := N0) w0
  have hB : ∀ b, N0 b → B ≤ b := fun _ hh => hh.elim
  have us := Try.underlying26
  have hf := fun {w : World} (hc : Chg N0 w0 w) => rmay23_any (h.keep hc hB) id seq height hm hu
  have hf2 := fun {w : World} (hc : Chg N0 w0 w) => rfind23_any (h.keep hc hB) id hm
  rw [hn] at hf
  rcases fnd_cases L.l id with ⟨i, x, hxx, h2, h3, h4, h5⟩ | ⟨h1, h4, h5⟩
  · rw [h5] at hf2
    have hlt := (List.getElem?_eq_some_iff.1 hxx).1
    have hus := useW_set ho hxx h2 h4 hn
    refine calls_x (args := [_, _, _, _]) tabOk Try.func13 Try.ntmps13 Try.results13 rfl (Nat.le_of_ble_eq_true rfl) ?_
    ((conv => whnf); repeat' ((first | ((with_reducible refine br_id ?_); first | (with_reducible (first | refine br_t ?_ | refine br_f ?_ | refine br_not ?_)) | ((with_reducible (first | refine br_dec (fun hx => ?_) (fun hx => ?_) | refine br_eq (fun hx => ?_) (fun hx => ?_) | refine br_ne (fun hx => ?_) (fun hx => ?_) | refine br_s (fun hx => ?_) (fun hx => ?_))) <;> (try (exfalso; first | omega | exact absurd hx (by assumption) | exact absurd (by assumption) hx)))) | ((with_reducible refine ar_id ?_); first | ((refine ar_u32inc y.used 1 (by omega) ?_)) | (refine ar_i64 (by omega) ?_) | (refine ar_u32 (by omega) ?_) | (refine ar_u64 (by omega) ?_) | (refine ar_u8 (by omega) ?_)) | ((with_reducible refine cn_id ?_); first | (refine cn rfl ?_) | (refine cn (by assumption) ?_) | (refine cn (by omega) ?_) | (refine cn (Chg.refl _ _) ?_)) | ((with_reducible refine ld_id ?_); first | ((refine ld_own hp 0 rfl (by assumption) _ _ rfl (by assumption) (by rfl) ?_)) | ((refine ld_own0 hp 0 rfl (by assumption) _ rfl (by assumption) (by rfl) ?_)) | (apply ld_hs hp; (focus ((repeat (first | exact Has.here | apply Has.there)); done)); exact rfl) | (refine ld_of (by assumption) ?_)) | ((with_reducible refine ldn_id ?_); first | ((refine ldn_own hp 0 rfl (by assumption) _ _ rfl (by assumption) (by rfl) (by rfl) ?_)) | ((refine ldn_ownx hp 0 rfl (by assumption) _ rfl (by assumption) rfl ?_)) | (apply lda_hs hp; (focus ((repeat (first | exact Has.here | apply Has.there)); done)); exact rfl) | (apply ldn_hs hp; (focus ((repeat (first | exact Has.here | apply Has.there)); done)); exact rfl; exact rfl)) | ((with_reducible refine al_id ?_); first | (refine al_cel hp ?_; clear hp; intro bb w hp)) | ((with_reducible refine st_id ?_); first | ((refine st_own hp 0 rfl hA i 2 rfl hyy (incS y) rfl (by simp) rfl ?_); clear hp; intro w hp; dsimp only [List.set] at hp) | (apply sta_hs hp; (focus ((repeat (first | exact Has.here | apply Has.there)); done)); exact rfl; exact rfl; clear hp; intro w hp; (try dsimp only [List.set] at hp)) | (apply st_hs hp; (focus ((repeat (first | exact Has.here | apply Has.there)); done)); exact rfl; exact rfl; clear hp; intro w hp; (try dsimp only [List.set] at hp))) | ((with_reducible refine gen_id ?_); first | ((refine gen_bs rfl hp el_ses Sess.c [] [] rfl rfl rfl (fun _ h => by cases h) (by omega) ?_); clear hp; intro bq w hp) | ((refine gen_appe rfl hp 0 rfl el_ses rfl ⟨rfl, rfl, rfl⟩ L rfl (h.keep hp.chg hB) (fun _ _ => rfl) ses_one (by omega) (by simp only [maxLen]; omega) ?_); clear hp; intro A1 c1 w hcc hp; dsimp only [List.set] at hp; obtain ⟨bA, oA, y, hA, hbA, hrowA, hyy⟩ := (hp.row (j := 0) rfl).has (i := i) (by show i < L.l.length; omega); obtain rfl : y = x := (by rw [hxx] at hyy; exact (Option.some.inj hyy).symm)) | ((refine gen_ixs rfl rfl hA rfl rfl (by omega) ?_)) | ((refine gen_ixs rfl rfl (by assumption) rfl rfl (by omega) ?_)) | (apply gen_build; exact rfl; exact rfl) | (apply gen_len; exact rfl; exact rfl; assumption) | (apply gen_min; exact rfl; exact rfl; exact rfl) | (apply gen_max; exact rfl; exact rfl; exact rfl) | (apply gen_ix; exact rfl; exact rfl; exact rfl; exact rfl; omega) | (apply gen_ixa; exact rfl; exact rfl; exact rfl; exact rfl; omega)) | ((with_reducible refine fk_id ?_); first | (refine fk_mk ?_ ?_)) | ((with_reducible refine cl_id ?_); first | ((refine cl_eq ((hf hp.chg)) rfl rfl ?_; rintro e w ⟨rfl, hcc⟩; replace hp := hp.call0 hcc; refine ⟨_, rfl, ?_⟩)) | ((refine cl_eq ((hf2 hp.chg)) rfl rfl ?_; rintro e w ⟨rfl, hcc⟩; replace hp := hp.call0 hcc; refine ⟨_, rfl, ?_⟩))) | ((with_reducible refine rd_id ?_); first | ((refine rd_ixs rfl rfl (by assumption) rfl rfl (by omega) ?_)) | (apply rd_len; exact rfl; exact rfl; assumption) | (apply rd_ix; exact rfl; exact rfl; exact rfl; exact rfl; omega))) <;> (conv => whnf)))
    exact ps_val (v' := .tuple #[.slice A1 L.l.length c1, errno 0]) rfl ⟨⟨A1, c1, L.l.set i (incS y)⟩, hus, by simp [Sl.v], (hp.made1 (j := 0) rfl).see⟩
  · rw [h4] at hn
    cases hn
section
variable {w0 : World} {L : Sl Sess}
theorem rgrantD_any (h : (seeR 4 Sess.c L).ok w0) (room : Int) (s : Sess) (hm : L.l.length ≤ 10000) : Calls Try.prog 11 #[L.v, i64 room, s.v] w0 fun e w' => ∃ r : Sl Sess, r.l = grW L.l room s ∧ e = .returned (.tuple #[r.v, errno (grE L.l room s)]) ∧ Mut (seeR 4 Sess.c L) (seeR 4 Sess.c r) w0 w' := by
  unfold grW
  by_cases hg : grE L.l room s = 0
  · rw [if_pos hg, hg]
    refine Calls.mono (rgrant23_ok h.1 room s hm hg) ?_
    rintro e w ⟨r, hr, rfl, hmd⟩
    exact ⟨r, hr, rfl, hmd.mut⟩
  · rw [if_neg hg]
    refine Calls.mono (rgrant23_no h.1 room s hm rfl hg) ?_
    rintro e w ⟨rfl, hc⟩
    exact ⟨L, rfl, rfl, Mut.of0 h hc⟩
theorem ruseD_any (h : (seeR 4 Sess.c L).ok w0) (id seq height : UInt32) (hm : L.l.length ≤ 10000) (hu : ∀ s ∈ L.l, s.used.toNat ≤ s.quota.toNat) (ho : L.l.Pairwise fun x y => x.id.toNat < y.id.toNat) : Calls Try.prog 13 #[L.v, u32 id, u32 seq, u32 height] w0 fun e w' => ∃ r : Sl Sess, r.l = useW L.l id seq height ∧ e = .returned (.tuple #[r.v, errno (mayO (byId L.l id) seq height)]) ∧ Mut (seeR 4 Sess.c L) (seeR 4 Sess.c r) w0 w' := by
  by_cases hg : mayO (byId L.l id) seq height = 0
  · rw [hg]
    refine Calls.mono (ruse23_ok h.1 id seq height hm hu ho hg) ?_
    rintro e w ⟨r, hr, rfl, hmd⟩
    exact ⟨r, hr, rfl, hmd.mut⟩
  · refine Calls.mono (ruse23_no h.1 id seq height hm hu hg) ?_
    rintro e w ⟨rfl, hc⟩
    exact ⟨L, by unfold useW; rw [if_neg hg], rfl, Mut.of0 h hc⟩
theorem rendD_any (h : (seeR 4 Sess.c L).ok w0) (id : UInt32) (hm : L.l.length ≤ 10000) : Calls Try.prog 14 #[L.v, u32 id] w0 fun e w' => ∃ r : Sl Sess, r.l = (L.l.filter fun s => decide (s.id ≠ id)) ∧ e = .returned (.tuple #[r.v, .bool (byId L.l id).isSome]) ∧ Mut (seeR 4 Sess.c L) (seeR 4 Sess.c r) w0 w' := by
  refine Calls.mono (rend23_any h.1 id hm) ?_
  rintro e w ⟨r, hr, rfl, hmd⟩
  exact ⟨r, hr, rfl, hmd.mut⟩
end
end Go.Proofs.Ytdncnepedkkamaa
/- Rdx: readings: an address against nil, a part of a slice, bools apart. No condition. -/
namespace Go.Proofs.Ytdncnepedkkamaa
set_option linter.unusedSimpArgs false
set_option linter.unusedVariables false
open Go.RowKit
set_option maxRecDepth 100000
set_option maxHeartbeats 2000000
theorem rd_ptrn {P : Program} {ρ : Operand → Value} {o : Oper} {w : World} {g : Value → Prop} {t t2 e : TypeId} {x y : Operand} (hop : o.op = .binOp .eql t x y t2) {a : Addr} (hx : ρ x = .pointer (some a)) (hy : ρ y = .pointer none) (ht : P.underlying t = some (.pointer e)) (hk : g (.bool false)) : Rd P ρ o w g := by
  refine ⟨_, fun w' _ => ?_, hk⟩
  have hg : eqGuard .eql t x y (ρ x) (ρ y) = pure () := by rw [hx]; exact eqGuard_at_pointer ..
  have h' := (run_eql_of (P := P) (w := w') (t := t) (eqIn_ptr 9999 ht (some a)) (fun op => by cases op <;> rfl)).1
  rw [hx, hy] at hg
  simp only [execOp, hop, hx, hy, hg, Sem.run_bind, Sem.run_pure, Result.andThen_ok, h']
  rfl
theorem rd_cutbb {α : Type} {P : Program} {w : World} {ρ : Operand → Value} {o : Oper} {g : Value → Prop} {t e : TypeId} {sz bytes : Nat} {x lo hi : Operand} (hop : o.op = .slice t x (some lo) (some hi) none) (hE : ElT P t e sz bytes) (s : Sl α) (hx : ρ x = s.v) (hc : s.l.length ≤ s.c) {k k' : IntKind} {m m' : Int} (hl : ρ lo = .int k m) (hh : ρ hi = .int k' m')
    {l h : Nat} (hm : m = l) (hm' : m' = h) (h1 : l ≤ h) (h2 : h ≤ s.l.length) (hk : g (s.cut sz l h).v) : Rd P ρ o w g := by
  subst hm hm'
  obtain ⟨ht, i, z, hi', _, hs, _⟩ := hE
  exact ⟨_, fun w' _ => run_cut hop ht ⟨i, hi', hs⟩ s hx hc ⟨k, hl⟩ ⟨k', hh⟩ h1 h2, hk⟩
theorem rd_bneq {P : Program} {w : World} {ρ : Operand → Value} {o : Oper} {g : Value → Prop} {t t2 : TypeId} {x y : Operand} (hop : o.op = .binOp .neq t x y t2) {a b : Bool} (hx : ρ x = .bool a) (hy : ρ y = .bool b) (ht : P.underlying t = some .bool) (hk : g (.bool (a != b))) : Rd P ρ o w g := by
  refine rd_bin hop (by rw [hx, hy]; simp [eqGuard]) (fun w' => ?_) hk
  rw [hx, hy]
  exact (run_eql_of (P := P) (w := w') (t := t) (x := .bool a) (y := .bool b) (b := a == b) (eqIn_bool 9999 ht a b) (fun op => by cases op <;> rfl)).2
theorem ge_0 (i : Nat) : (true != decide ((i : Int) ≥ 0)) = false := by
  rw [decide_eq_true (Int.natCast_nonneg i)]
  rfl
theorem ge_1 (i : Nat) : decide ((i : Int) ≥ 0) = true := decide_eq_true (Int.natCast_nonneg i)
end Go.Proofs.Ytdncnepedkkamaa
/- OpS: the calls of the laws of sessions that came in, opened. No condition. -/
namespace Go.Proofs.Ytdncnepedkkamaa
set_option linter.unusedSimpArgs false
set_option linter.unusedVariables false
open Go.RowKit
set_option maxRecDepth 100000
set_option maxHeartbeats 2000000
structure OpS where
  kind : Int
  s : Sess
  seq : UInt32
  height : UInt32
abbrev OpS.c (o : OpS) : List Value := [i64 o.kind, u32 o.s.id, u32 o.s.quota, u32 o.s.used, u32 o.s.exp, u32 o.seq, u32 o.height]
theorem rdb_sess {H : Type} {enc : TypeId × Value → H} {w : World} {cs : List Value} (h : Rdb enc Try.prog w 29 cs) : ∃ x : Sess, cs = [u32 x.id, u32 x.quota, u32 x.used, u32 x.exp] := by
  obtain ⟨hl, hf⟩ := rdb_struct (fs := Try.prog.fieldsOf 29) (by kernel_rfl) h
  obtain ⟨a, ha⟩ := rdb_u32 (cs := (cs.drop 0).take 1) (hf 0 _ rfl)
  obtain ⟨b, hb⟩ := rdb_u32 (cs := (cs.drop 1).take 1) (hf 1 _ rfl)
  obtain ⟨c, hc⟩ := rdb_u32 (cs := (cs.drop 2).take 1) (hf 2 _ rfl)
  obtain ⟨d, hd⟩ := rdb_u32 (cs := (cs.drop 3).take 1) (hf 3 _ rfl)
  have h3 : cs.drop 4 = [] := List.drop_eq_nil_of_le (by rw [hl]; exact Nat.le_of_eq (by kernel_rfl))
  have h1 := drop_split cs 0 1
  rw [drop_split cs (0 + 1) 1, drop_split cs (0 + 1 + 1) 1, drop_split cs (0 + 1 + 1 + 1) 1, ha, hb, hc, hd, h3, List.drop_zero] at h1
  exact ⟨⟨a, b, c, d⟩, h1⟩
theorem rdb_op {H : Type} {enc : TypeId × Value → H} {w : World} {cs : List Value} (h : Rdb enc Try.prog w 31 cs) : ∃ x : OpS, cs = x.c ∧ -9223372036854775808 ≤ x.kind ∧ x.kind ≤ 9223372036854775807 := by
  obtain ⟨hl, hf⟩ := rdb_struct (fs := Try.prog.fieldsOf 31) (by kernel_rfl) h
  obtain ⟨a, ha, hw⟩ := rdb_i64 (cs := (cs.drop 0).take 1) (hf 0 _ rfl)
  obtain ⟨b, hb⟩ := rdb_sess (cs := (cs.drop 1).take 4) (hf 1 _ rfl)
  obtain ⟨c, hc⟩ := rdb_u32 (cs := (cs.drop 5).take 1) (hf 2 _ rfl)
  obtain ⟨d, hd⟩ := rdb_u32 (cs := (cs.drop 6).take 1) (hf 3 _ rfl)
  have h3 : cs.drop 7 = [] := List.drop_eq_nil_of_le (by rw [hl]; exact Nat.le_of_eq (by kernel_rfl))
  have h1 := drop_split cs 0 1
  rw [drop_split cs (0 + 1) 4, drop_split cs (0 + 1 + 4) 1, drop_split cs (0 + 1 + 4 + 1) 1, ha, hb, hc, hd, h3, List.drop_zero] at h1
  exact ⟨⟨a, b, c, d⟩, h1, hw⟩
end Go.Proofs.Ytdncnepedkkamaa
