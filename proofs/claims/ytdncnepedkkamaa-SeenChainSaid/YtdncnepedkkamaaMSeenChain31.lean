/- MSeenChain31: Alive27, See. -/
import Derived.Test.YtdncnepedkkamaaMSeenChainsSeen3
import Derived.Test.YtdncnepedkkamaaMSeenChain19
import Derived.Test.YtdncnepedkkamaaMSeenChain7
/- Alive27: an index of package seen is made; the document's example. -/
namespace Go.Proofs.Ytdncnepedkkamaa
set_option linter.unusedSimpArgs false
set_option linter.unusedVariables false
open Go.RowKit
set_option maxRecDepth 100000
set_option maxHeartbeats 2000000
theorem Hp.outRow {S : Nat → Prop} {w0 w : World} {r : Res} {L rs : List Res} (h : Hp S w0 w (star (r :: L) :: rs)) : Hp S w0 w (star L :: r :: rs) := by
  have u := h.unfold
  obtain ⟨p1, p2⟩ := List.pairwise_cons.1 u.sep
  obtain ⟨q1, q2, q3⟩ := List.pairwise_append.1 p2
  refine ⟨h.chg, fun x hx => ?_, List.pairwise_cons.2 ⟨fun x hx b hb => ?_, List.pairwise_cons.2 ⟨fun x hx => p1 x (List.mem_append_right _ hx), q2⟩⟩, fun x hx b hb => ?_⟩
  · rcases List.mem_cons.1 hx with rfl | hx
    · exact star_ok.2 ⟨fun y hy => u.ok y (List.mem_cons_of_mem _ (List.mem_append_left _ hy)), q1⟩
    rcases List.mem_cons.1 hx with rfl | hx
    · exact u.ok _ (List.mem_cons_self ..)
    · exact u.ok x (List.mem_cons_of_mem _ (List.mem_append_right _ hx))
  · obtain ⟨y, hy, hyb⟩ := star_dom.1 hb
    rcases List.mem_cons.1 hx with rfl | hx
    · exact fun hxb => p1 y (List.mem_append_left _ hy) b hxb hyb
    · exact q3 y hy x hx b hyb
  · rcases List.mem_cons.1 hx with rfl | hx
    · obtain ⟨y, hy, hyb⟩ := star_dom.1 hb
      exact u.own y (List.mem_cons_of_mem _ (List.mem_append_left _ hy)) b hyb
    rcases List.mem_cons.1 hx with rfl | hx
    · exact u.own _ (List.mem_cons_self ..) b hb
    · exact u.own x (List.mem_cons_of_mem _ (List.mem_append_right _ hx)) b hb
theorem snew_any (w0 : World) : Calls Try.prog 26 #[] w0 fun e w' => ∃ b X, X.bs.l = [] ∧ X.lw = [] ∧ X.nw = 0 ∧ X.lh = [] ∧ X.nh = 0 ∧ e = .returned (ptr b) ∧ Made (star (snRs b X)) w0 w' := by
  have hp := Hp.start (S := N0) w0
  refine calls_x (args := []) tabOk Try.func26 Try.ntmps26 Try.results26 rfl (Nat.le_of_ble_eq_true rfl) ?_
  ((conv => whnf); repeat' ((first | ((with_reducible refine br_id ?_); first | (with_reducible (first | refine br_t ?_ | refine br_f ?_ | refine br_not ?_)) | ((with_reducible (first | refine br_dec (fun hx => ?_) (fun hx => ?_) | refine br_eq (fun hx => ?_) (fun hx => ?_) | refine br_ne (fun hx => ?_) (fun hx => ?_) | refine br_s (fun hx => ?_) (fun hx => ?_))) <;> (try (exfalso; first | omega | exact absurd hx (by assumption) | exact absurd (by assumption) hx)))) | ((with_reducible refine ar_id ?_); first | (refine ar_i64 (by omega) ?_) | (refine ar_u32 (by omega) ?_) | (refine ar_u64 (by omega) ?_) | (refine ar_u8 (by omega) ?_)) | ((with_reducible refine cn_id ?_); first | (refine cn rfl ?_) | (refine cn (by assumption) ?_) | (refine cn (by omega) ?_) | (refine cn (Chg.refl _ _) ?_)) | ((with_reducible refine ld_id ?_); first | (apply ld_hs hp; (focus ((repeat (first | exact Has.here | apply Has.there)); done)); exact rfl) | (refine ld_of (by assumption) ?_)) | ((with_reducible refine ldn_id ?_); first | (apply lda_hs hp; (focus ((repeat (first | exact Has.here | apply Has.there)); done)); exact rfl) | (apply ldn_hs hp; (focus ((repeat (first | exact Has.here | apply Has.there)); done)); exact rfl; exact rfl)) | ((with_reducible refine al_id ?_); first | (refine al_cel hp ?_; clear hp; intro bb w hp)) | ((with_reducible refine st_id ?_); first | (apply sta_hs hp; (focus ((repeat (first | exact Has.here | apply Has.there)); done)); exact rfl; exact rfl; clear hp; intro w hp; (try dsimp only [List.set] at hp)) | (apply st_hs hp; (focus ((repeat (first | exact Has.here | apply Has.there)); done)); exact rfl; exact rfl; clear hp; intro w hp; (try dsimp only [List.set] at hp))) | ((with_reducible refine gen_id ?_); first | (apply gen_build; exact rfl; exact rfl) | (apply gen_len; exact rfl; exact rfl; assumption) | (apply gen_min; exact rfl; exact rfl; exact rfl) | (apply gen_max; exact rfl; exact rfl; exact rfl) | (apply gen_ix; exact rfl; exact rfl; exact rfl; exact rfl; omega) | (apply gen_ixa; exact rfl; exact rfl; exact rfl; exact rfl; omega)) | ((with_reducible refine dr_id ?_); first | (refine dr_auto tabOk (by kernel_rfl) (by decide +kernel) ?_; (try replace hp := hp.drew)) | (refine dr_autog tabOk (by kernel_rfl) (by decide +kernel) ?_; (try replace hp := hp.drew)) | (refine dr_autot tabOk (by kernel_rfl) (by decide +kernel) ?_; (try replace hp := hp.drew))) | ((with_reducible refine fk_id ?_); first | (refine fk_mk ?_ ?_)) | ((with_reducible refine cl_id ?_); first | ((refine cl_eq inewIP rfl rfl ?_; rintro e w ⟨bw, mw, rfl, hm⟩; replace hp := hp.add hm; clear hm; refine ⟨_, rfl, ?_⟩)) | ((refine cl_eq inewHI rfl rfl ?_; rintro e w ⟨bh, mh, rfl, hm⟩; replace hp := hp.add hm; clear hm; refine ⟨_, rfl, ?_⟩))) | ((with_reducible refine rd_id ?_); first | (apply rd_len; exact rfl; exact rfl; assumption) | (apply rd_ix; exact rfl; exact rfl; exact rfl; exact rfl; omega))) <;> (conv => whnf)))
  replace hp := (hp.nilRow 65 65 Blk.c).toCut (j := 0) rfl
  replace hp := hp.pick (rs' := snRs bb ⟨0, Sl.nil, bw, mw, [], 0, bh, mh, [], 0⟩) [1, 0, 3, 2] (by decide) rfl
  exact ps_of ⟨_, _, rfl, rfl, rfl, rfl, rfl, rfl, hp.made (.refl _)⟩
def id7 : Id := #v[7, 0, 0, 0, 0, 0, 0, 0, 0, 0, 0, 0, 0, 0, 0, 0, 0, 0, 0, 0, 0, 0, 0, 0, 0, 0, 0, 0, 0, 0, 0, 0]
def id1 : Id := #v[1, 0, 0, 0, 0, 0, 0, 0, 0, 0, 0, 0, 0, 0, 0, 0, 0, 0, 0, 0, 0, 0, 0, 0, 0, 0, 0, 0, 0, 0, 0, 0]
def id2 : Id := #v[2, 0, 0, 0, 0, 0, 0, 0, 0, 0, 0, 0, 0, 0, 0, 0, 0, 0, 0, 0, 0, 0, 0, 0, 0, 0, 0, 0, 0, 0, 0, 0]
theorem gen_id7 {ρ : Operand → Value} {o : Oper} {w : World} {g : Value → World → Prop} (hop : o.op = .build 62 #[(0, .const (.int .u8 7))]) (hr : ρ (.const (.int .u8 7)) = .int .u8 7) (hk : g id7.v w) : Gen Try.prog ρ o w g :=
  gen_build hop (out := id7.c) (by show buildV _ _ [(0, ρ (.const (.int .u8 7)))] = _; rw [hr]; kernel_rfl) hk
theorem gen_id1 {ρ : Operand → Value} {o : Oper} {w : World} {g : Value → World → Prop} (hop : o.op = .build 62 #[(0, .const (.int .u8 1))]) (hr : ρ (.const (.int .u8 1)) = .int .u8 1) (hk : g id1.v w) : Gen Try.prog ρ o w g :=
  gen_build hop (out := id1.c) (by show buildV _ _ [(0, ρ (.const (.int .u8 1)))] = _; rw [hr]; kernel_rfl) hk
theorem gen_id2 {ρ : Operand → Value} {o : Oper} {w : World} {g : Value → World → Prop} (hop : o.op = .build 62 #[(0, .const (.int .u8 2))]) (hr : ρ (.const (.int .u8 2)) = .int .u8 2) (hk : g id2.v w) : Gen Try.prog ρ o w g :=
  gen_build hop (out := id2.c) (by show buildV _ _ [(0, ρ (.const (.int .u8 2)))] = _; rw [hr]; kernel_rfl) hk
theorem gen_blk2 {ρ : Operand → Value} {o : Oper} {w : World} {g : Value → World → Prop} (x : Id) (S : Sl Id) {a c : Operand} (hop : o.op = .build 65 #[(0, a), (2, c)]) (ha : ρ a = x.v) (hc : ρ c = S.v) (hk : g (Blk.v ⟨x, Id.z, S⟩) w) : Gen Try.prog ρ o w g :=
  gen_build hop (out := Blk.c ⟨x, Id.z, S⟩) (by show buildV _ _ [(0, ρ a), (2, ρ c)] = _; rw [ha, hc]; kernel_rfl) hk
theorem right_one {x y : Id} {S : Sl Id} (hS : S.l = [y]) (hne : x ≠ Id.z) : rightB ⟨x, Id.z, S⟩ = true := by simp [rightB, hS, hne]
theorem put_one {X : Snx} {ht : UInt32} {y : Id} {lw nw lh nh} (h : PutI X ht [y] [y].length lw nw lh nh) (x : Id) : (idx lw x).l = if x = y then (idx X.lw x).l ++ [⟨ht, 0⟩] else (idx X.lw x).l := by
  rw [h.w]
  by_cases hx : x = y
  · subst hx
    simp
  · rw [if_neg (by simpa using hx), if_neg hx]
theorem put_oneh {X : Snx} {ht : UInt32} {y : Id} {lw nw lh nh} (h : PutI X ht [y] [y].length lw nw lh nh) (k : Hint) : (idx lh k).l = (idx X.lh k).l ++ (if hintOf y = k ∧ y ∉ (idx X.lh k).l then [y] else []) := by
  rw [h.h]
  congr 1
  by_cases hx : hintOf y = k ∧ y ∉ (idx X.lh k).l
  · rw [if_pos hx]
    simp [hx.1, hx.2]
  · rw [if_neg hx]
    apply List.filter_eq_nil_iff.2
    intro z hz
    simp at hz
    subst hz
    simpa using hx
theorem stk_one {X : Snx} {ht : UInt32} {y : Id} {lw nw lh nh} (h : StkI X ht [y] [y].length lw nw lh nh) (x : Id) : (idx lw x).l = if x = y then (idx X.lw x).l.erase ⟨ht, 0⟩ else (idx X.lw x).l := by
  rw [h.w]
  by_cases hx : x = y
  · subst hx
    simp [stkE]
  · rw [if_neg (by simpa using hx), if_neg hx]
theorem alive27_any (w0 : World) : Calls Try.prog 28 #[] w0 fun e w' => e = .returned (.bool true) ∧ Chg N0 w0 w' := by
  have hp := Hp.start (S := N0) w0
  refine calls_x (args := []) tabOk Try.func28 Try.ntmps28 Try.results28 rfl (Nat.le_of_ble_eq_true rfl) ?_
  ((conv => whnf); repeat' ((first | ((with_reducible refine br_id ?_); first | (with_reducible (first | refine br_t ?_ | refine br_f ?_ | refine br_not ?_)) | ((with_reducible (first | refine br_dec (fun hx => ?_) (fun hx => ?_) | refine br_eq (fun hx => ?_) (fun hx => ?_) | refine br_ne (fun hx => ?_) (fun hx => ?_) | refine br_s (fun hx => ?_) (fun hx => ?_))) <;> (try (exfalso; first | omega | exact absurd hx (by assumption) | exact absurd (by assumption) hx)))) | ((with_reducible refine ar_id ?_); first | (refine ar_i64 (by omega) ?_) | (refine ar_u32 (by omega) ?_) | (refine ar_u64 (by omega) ?_) | (refine ar_u8 (by omega) ?_)) | ((with_reducible refine cn_id ?_); first | (refine cn rfl ?_) | (refine cn (by assumption) ?_) | (refine cn (by omega) ?_) | (refine cn (Chg.refl _ _) ?_)) | ((with_reducible refine ld_id ?_); first | (apply ld_hs hp; (focus ((repeat (first | exact Has.here | apply Has.there)); done)); exact rfl) | (refine ld_of (by assumption) ?_)) | ((with_reducible refine ldn_id ?_); first | (apply lda_hs hp; (focus ((repeat (first | exact Has.here | apply Has.there)); done)); exact rfl) | (apply ldn_hs hp; (focus ((repeat (first | exact Has.here | apply Has.there)); done)); exact rfl; exact rfl)) | ((with_reducible refine al_id ?_); first | (refine al_cel hp ?_; clear hp; intro bb w hp)) | ((with_reducible refine st_id ?_); first | (apply sta_hs hp; (focus ((repeat (first | exact Has.here | apply Has.there)); done)); exact rfl; exact rfl; clear hp; intro w hp; (try dsimp only [List.set] at hp)) | (apply st_hs hp; (focus ((repeat (first | exact Has.here | apply Has.there)); done)); exact rfl; exact rfl; clear hp; intro w hp; (try dsimp only [List.set] at hp))) | ((with_reducible refine gen_id ?_); first | (apply gen_build; exact rfl; exact rfl) | (apply gen_len; exact rfl; exact rfl; assumption) | (apply gen_min; exact rfl; exact rfl; exact rfl) | (apply gen_max; exact rfl; exact rfl; exact rfl) | (apply gen_ix; exact rfl; exact rfl; exact rfl; exact rfl; omega) | (apply gen_ixa; exact rfl; exact rfl; exact rfl; exact rfl; omega)) | ((with_reducible refine dr_id ?_); first | (refine dr_auto tabOk (by kernel_rfl) (by decide +kernel) ?_; (try replace hp := hp.drew)) | (refine dr_autog tabOk (by kernel_rfl) (by decide +kernel) ?_; (try replace hp := hp.drew)) | (refine dr_autot tabOk (by kernel_rfl) (by decide +kernel) ?_; (try replace hp := hp.drew))) | ((with_reducible refine fk_id ?_); first | (refine fk_mk ?_ ?_)) | ((with_reducible refine rd_id ?_); first | (apply rd_len; exact rfl; exact rfl; assumption) | (apply rd_ix; exact rfl; exact rfl; exact rfl; exact rfl; omega))) <;> (conv => whnf)))
  refine cl_of (snew_any _) ?_
  rintro e w ⟨b, X, hx1, hx2, hx3, hx4, hx5, rfl, hm⟩
  replace hp := hp.add hm
  clear hm
  refine ⟨_, rfl, ?_⟩
  ((conv => whnf); repeat' ((first | ((with_reducible refine br_id ?_); first | (with_reducible (first | refine br_t ?_ | refine br_f ?_ | refine br_not ?_)) | ((with_reducible (first | refine br_dec (fun hx => ?_) (fun hx => ?_) | refine br_eq (fun hx => ?_) (fun hx => ?_) | refine br_ne (fun hx => ?_) (fun hx => ?_) | refine br_s (fun hx => ?_) (fun hx => ?_))) <;> (try (exfalso; first | omega | exact absurd hx (by assumption) | exact absurd (by assumption) hx)))) | ((with_reducible refine ar_id ?_); first | (refine ar_i64 (by omega) ?_) | (refine ar_u32 (by omega) ?_) | (refine ar_u64 (by omega) ?_) | (refine ar_u8 (by omega) ?_)) | ((with_reducible refine cn_id ?_); first | (refine cn rfl ?_) | (refine cn (by assumption) ?_) | (refine cn (by omega) ?_) | (refine cn (Chg.refl _ _) ?_)) | ((with_reducible refine ld_id ?_); first | (apply ld_hs hp; (focus ((repeat (first | exact Has.here | apply Has.there)); done)); exact rfl) | (refine ld_of (by assumption) ?_)) | ((with_reducible refine ldn_id ?_); first | (apply lda_hs hp; (focus ((repeat (first | exact Has.here | apply Has.there)); done)); exact rfl) | (apply ldn_hs hp; (focus ((repeat (first | exact Has.here | apply Has.there)); done)); exact rfl; exact rfl)) | ((with_reducible refine al_id ?_); first | (refine al_cel hp ?_; clear hp; intro bb w hp)) | ((with_reducible refine st_id ?_); first | (apply sta_hs hp; (focus ((repeat (first | exact Has.here | apply Has.there)); done)); exact rfl; exact rfl; clear hp; intro w hp; (try dsimp only [List.set] at hp)) | (apply st_hs hp; (focus ((repeat (first | exact Has.here | apply Has.there)); done)); exact rfl; exact rfl; clear hp; intro w hp; (try dsimp only [List.set] at hp))) | ((with_reducible refine gen_id ?_); first | ((refine gen_id1 rfl rfl ?_)) | ((refine gen_id7 rfl rfl ?_)) | ((refine gen_bs rfl hp el_id Id.c [id7] [id7.v] rfl rfl rfl (fun _ hh => by simp at hh; subst hh; rfl) (by omega) ?_); clear hp; intro br w hp) | ((refine gen_blk2 id1 ⟨some ⟨br, 0, none⟩, 1, [id7]⟩ rfl rfl rfl ?_)) | (apply gen_build; exact rfl; exact rfl) | (apply gen_len; exact rfl; exact rfl; assumption) | (apply gen_min; exact rfl; exact rfl; exact rfl) | (apply gen_max; exact rfl; exact rfl; exact rfl) | (apply gen_ix; exact rfl; exact rfl; exact rfl; exact rfl; omega) | (apply gen_ixa; exact rfl; exact rfl; exact rfl; exact rfl; omega)) | ((with_reducible refine dr_id ?_); first | (refine dr_auto tabOk (by kernel_rfl) (by decide +kernel) ?_; (try replace hp := hp.drew)) | (refine dr_autog tabOk (by kernel_rfl) (by decide +kernel) ?_; (try replace hp := hp.drew)) | (refine dr_autot tabOk (by kernel_rfl) (by decide +kernel) ?_; (try replace hp := hp.drew))) | ((with_reducible refine fk_id ?_); first | (refine fk_mk ?_ ?_)) | ((with_reducible refine rd_id ?_); first | (apply rd_len; exact rfl; exact rfl; assumption) | (apply rd_ix; exact rfl; exact rfl; exact rfl; exact rfl; omega))) <;> (conv => whnf)))
  have hz7 : id1 ≠ Id.z := by decide
  have hpu := spush_any (X := X) (ht := 5) (low' := 5) (B := ⟨id1, Id.z, ⟨some ⟨br, 0, none⟩, 1, [id7]⟩⟩) (hp.get (j := 1) rfl) (.inl ⟨hx1, rfl⟩) (by rw [hx1]; simp) (right_one rfl hz7) (out_row hp (by simp)) (by simp) (by simp) (fun x => by rw [hx2]; simp [idx, Sl.nil]) (fun k => by rw [hx4]; simp [idx, Sl.nil]) (by omega) (by omega) (fun x p hp => by rw [hx2] at hp; simp [idx, Sl.nil] at hp)
  refine cl_eq hpu rfl rfl ?_
  rintro e w ⟨rfl, lw1, nw1, lh1, nh1, s1, t1, hs1, ht1, hI1, hm⟩
  clear hpu
  dsimp only at hs1 ht1 hI1 hm
  replace hp := hp.via (j := 1) rfl hm
  clear hm
  dsimp only [List.set] at hp
  refine ⟨_, rfl, ?_⟩
  have w1 := put_one hI1
  have k1 := put_oneh hI1
  have n1 := hI1.nw1; have n2 := hI1.nw2; have n3 := hI1.nh1; have n4 := hI1.nh2
  rw [hx3] at n1 n2
  rw [hx5] at n3 n4
  rw [hx2] at w1
  rw [hx4] at k1
  have e0 : ∀ x : Id, (idx ([] : List (Id × Sl Plc)) x).l = [] := fun _ => rfl
  have e1 : ∀ k : Hint, (idx ([] : List (Hint × Sl Id)) k).l = [] := fun _ => rfl
  simp only [e0, List.nil_append] at w1
  simp only [e1, List.nil_append, List.not_mem_nil, not_false_eq_true, and_true] at k1
  obtain ⟨X1, hX1⟩ : ∃ X1 : Snx, X1 = { X with low := 5, bs := t1, lw := lw1, nw := nw1, lh := lh1, nh := nh1 } := ⟨_, rfl⟩
  rw [← hX1] at hp
  replace hp := hp.pick (rs' := [_, _]) [1, 0] (by decide) rfl
  replace hp := hp.outRow
  ((conv => whnf); repeat' ((first | ((with_reducible refine br_id ?_); first | (with_reducible (first | refine br_t ?_ | refine br_f ?_ | refine br_not ?_)) | ((with_reducible (first | refine br_dec (fun hx => ?_) (fun hx => ?_) | refine br_eq (fun hx => ?_) (fun hx => ?_) | refine br_ne (fun hx => ?_) (fun hx => ?_) | refine br_s (fun hx => ?_) (fun hx => ?_))) <;> (try (exfalso; first | omega | exact absurd hx (by assumption) | exact absurd (by assumption) hx)))) | ((with_reducible refine ar_id ?_); first | (refine ar_i64 (by omega) ?_) | (refine ar_u32 (by omega) ?_) | (refine ar_u64 (by omega) ?_) | (refine ar_u8 (by omega) ?_)) | ((with_reducible refine cn_id ?_); first | (refine cn rfl ?_) | (refine cn (by assumption) ?_) | (refine cn (by omega) ?_) | (refine cn (Chg.refl _ _) ?_)) | ((with_reducible refine ld_id ?_); first | (apply ld_hs hp; (focus ((repeat (first | exact Has.here | apply Has.there)); done)); exact rfl) | (refine ld_of (by assumption) ?_)) | ((with_reducible refine ldn_id ?_); first | (apply lda_hs hp; (focus ((repeat (first | exact Has.here | apply Has.there)); done)); exact rfl) | (apply ldn_hs hp; (focus ((repeat (first | exact Has.here | apply Has.there)); done)); exact rfl; exact rfl)) | ((with_reducible refine al_id ?_); first | (refine al_cel hp ?_; clear hp; intro bb w hp)) | ((with_reducible refine st_id ?_); first | (apply sta_hs hp; (focus ((repeat (first | exact Has.here | apply Has.there)); done)); exact rfl; exact rfl; clear hp; intro w hp; (try dsimp only [List.set] at hp)) | (apply st_hs hp; (focus ((repeat (first | exact Has.here | apply Has.there)); done)); exact rfl; exact rfl; clear hp; intro w hp; (try dsimp only [List.set] at hp))) | ((with_reducible refine gen_id ?_); first | ((refine gen_id2 rfl rfl ?_)) | ((refine gen_id7 rfl rfl ?_)) | ((refine gen_bs rfl hp el_id Id.c [id7] [id7.v] rfl rfl rfl (fun _ hh => by simp at hh; subst hh; rfl) (by omega) ?_); clear hp; intro br w hp) | ((refine gen_blk2 id2 ⟨some ⟨br, 0, none⟩, 1, [id7]⟩ rfl rfl rfl ?_)) | (apply gen_build; exact rfl; exact rfl) | (apply gen_len; exact rfl; exact rfl; assumption) | (apply gen_min; exact rfl; exact rfl; exact rfl) | (apply gen_max; exact rfl; exact rfl; exact rfl) | (apply gen_ix; exact rfl; exact rfl; exact rfl; exact rfl; omega) | (apply gen_ixa; exact rfl; exact rfl; exact rfl; exact rfl; omega)) | ((with_reducible refine dr_id ?_); first | (refine dr_auto tabOk (by kernel_rfl) (by decide +kernel) ?_; (try replace hp := hp.drew)) | (refine dr_autog tabOk (by kernel_rfl) (by decide +kernel) ?_; (try replace hp := hp.drew)) | (refine dr_autot tabOk (by kernel_rfl) (by decide +kernel) ?_; (try replace hp := hp.drew))) | ((with_reducible refine fk_id ?_); first | (refine fk_mk ?_ ?_)) | ((with_reducible refine rd_id ?_); first | (apply rd_len; exact rfl; exact rfl; assumption) | (apply rd_ix; exact rfl; exact rfl; exact rfl; exact rfl; omega))) <;> (conv => whnf)))
  have hb1 : X1.bs.l = [⟨id1, Id.z, s1⟩] := by rw [hX1]; show t1.l = _; rw [ht1, hx1]; rfl
  have hl1 : X1.low = 5 := by rw [hX1]
  replace w1 : ∀ x, (idx X1.lw x).l = if x = id7 then [⟨5, 0⟩] else [] := by rw [hX1]; exact w1
  replace k1 : ∀ k, (idx X1.lh k).l = if hintOf id7 = k then [id7] else [] := by rw [hX1]; exact k1
  have c1 : 0 ≤ X1.nw ∧ X1.nw ≤ 1 := by rw [hX1]; exact ⟨n1, by simpa using n2⟩
  have c2 : 0 ≤ X1.nh ∧ X1.nh ≤ 1 := by rw [hX1]; exact ⟨n3, by simpa using n4⟩
  clear hX1 n1 n2 n3 n4 hI1 ht1 hx1 hx2 hx3 hx4 hx5
  have hz8 : id2 ≠ Id.z := by decide
  have hpu := spush_any (X := X1) (ht := 6) (low' := 5) (B := ⟨id2, Id.z, ⟨some ⟨br, 0, none⟩, 1, [id7]⟩⟩) (hp.get (j := 1) rfl) (.inr ⟨by rw [hb1]; simp, hl1.symm, by rw [hl1, hb1]; rfl⟩) (by rw [hb1]; simp) (right_one rfl hz8) (out_row hp (by simp)) (by simp) (by simp) (fun x => by rw [w1]; split <;> simp) (fun k => by rw [k1]; split <;> simp) (by omega) (by omega) (fun x p hp => by
    rw [w1] at hp
    split at hp
    · simp at hp; subst hp; decide
    · simp at hp)
  refine cl_eq hpu rfl rfl ?_
  rintro e w ⟨rfl, lw2, nw2, lh2, nh2, s2, t2, hs2, ht2, hI2, hm⟩
  clear hpu
  dsimp only at hs2 ht2 hI2 hm
  replace hp := hp.via (j := 1) rfl hm
  clear hm
  dsimp only [List.set] at hp
  refine ⟨_, rfl, ?_⟩
  have w2 := put_one hI2
  have k2 := put_oneh hI2
  have n1 := hI2.nw1; have n2 := hI2.nw2; have n3 := hI2.nh1; have n4 := hI2.nh2
  obtain ⟨X2, hX2⟩ : ∃ X2 : Snx, X2 = { X1 with low := 5, bs := t2, lw := lw2, nw := nw2, lh := lh2, nh := nh2 } := ⟨_, rfl⟩
  rw [← hX2] at hp
  replace hp := hp.pick (rs' := [_, _]) [1, 2] (by decide) rfl
  replace hp := hp.outRow
  have hb2 : X2.bs.l = ⟨id1, Id.z, s1⟩ :: [⟨id2, Id.z, s2⟩] := by rw [hX2]; show t2.l = _; rw [ht2, hb1]; rfl
  have hl2 : X2.low = 5 := by rw [hX2]
  replace w2 : ∀ x, (idx X2.lw x).l = if x = id7 then [⟨5, 0⟩, ⟨6, 0⟩] else [] := fun x => by
    rw [hX2]
    show (idx lw2 x).l = _
    rw [w2, w1]
    by_cases hx : x = id7
    · rw [if_pos hx, if_pos hx, if_pos hx]; rfl
    · rw [if_neg hx, if_neg hx, if_neg hx]
  replace k2 : ∀ k, (idx X2.lh k).l = if hintOf id7 = k then [id7] else [] := fun k => by
    rw [hX2]
    show (idx lh2 k).l = _
    rw [k2, k1]
    by_cases hx : hintOf id7 = k
    · simp [hx]
    · simp [hx]
  have c3 : 0 ≤ X2.nw ∧ X2.nw ≤ 2 := by rw [hX2]; exact ⟨by show 0 ≤ nw2; omega, by show nw2 ≤ 2; simp at n2; omega⟩
  have c4 : 0 ≤ X2.nh ∧ X2.nh ≤ 2 := by rw [hX2]; exact ⟨by show 0 ≤ nh2; omega, by show nh2 ≤ 2; simp at n4; omega⟩
  clear hX2 n1 n2 n3 n4 hI2 ht2
  have hh2 := fun {w : World} (h : SnAt w b X2) => shas_any h id7 (by rw [w2, if_pos rfl]; simp)
  rw [w2, if_pos rfl] at hh2
  dsimp only at hh2
  have hm5 : minP ⟨5, 0⟩ [⟨6, 0⟩] = ⟨5, 0⟩ := by decide
  rw [hm5] at hh2
  ((conv => whnf); repeat' ((first | ((with_reducible refine br_id ?_); first | (with_reducible (first | refine br_t ?_ | refine br_f ?_ | refine br_not ?_)) | ((with_reducible (first | refine br_dec (fun hx => ?_) (fun hx => ?_) | refine br_eq (fun hx => ?_) (fun hx => ?_) | refine br_ne (fun hx => ?_) (fun hx => ?_) | refine br_s (fun hx => ?_) (fun hx => ?_))) <;> (try (exfalso; first | omega | exact absurd hx (by assumption) | exact absurd (by assumption) hx)))) | ((with_reducible refine ar_id ?_); first | (refine ar_i64 (by omega) ?_) | (refine ar_u32 (by omega) ?_) | (refine ar_u64 (by omega) ?_) | (refine ar_u8 (by omega) ?_)) | ((with_reducible refine cn_id ?_); first | (refine cn rfl ?_) | (refine cn (by assumption) ?_) | (refine cn (by omega) ?_) | (refine cn (Chg.refl _ _) ?_)) | ((with_reducible refine ld_id ?_); first | (apply ld_hs hp; (focus ((repeat (first | exact Has.here | apply Has.there)); done)); exact rfl) | (refine ld_of (by assumption) ?_)) | ((with_reducible refine ldn_id ?_); first | (apply lda_hs hp; (focus ((repeat (first | exact Has.here | apply Has.there)); done)); exact rfl) | (apply ldn_hs hp; (focus ((repeat (first | exact Has.here | apply Has.there)); done)); exact rfl; exact rfl)) | ((with_reducible refine al_id ?_); first | (refine al_cel hp ?_; clear hp; intro bb w hp)) | ((with_reducible refine st_id ?_); first | (apply sta_hs hp; (focus ((repeat (first | exact Has.here | apply Has.there)); done)); exact rfl; exact rfl; clear hp; intro w hp; (try dsimp only [List.set] at hp)) | (apply st_hs hp; (focus ((repeat (first | exact Has.here | apply Has.there)); done)); exact rfl; exact rfl; clear hp; intro w hp; (try dsimp only [List.set] at hp))) | ((with_reducible refine gen_id ?_); first | ((refine gen_id7 rfl rfl ?_)) | (apply gen_build; exact rfl; exact rfl) | (apply gen_len; exact rfl; exact rfl; assumption) | (apply gen_min; exact rfl; exact rfl; exact rfl) | (apply gen_max; exact rfl; exact rfl; exact rfl) | (apply gen_ix; exact rfl; exact rfl; exact rfl; exact rfl; omega) | (apply gen_ixa; exact rfl; exact rfl; exact rfl; exact rfl; omega)) | ((with_reducible refine dr_id ?_); first | (refine dr_auto tabOk (by kernel_rfl) (by decide +kernel) ?_; (try replace hp := hp.drew)) | (refine dr_autog tabOk (by kernel_rfl) (by decide +kernel) ?_; (try replace hp := hp.drew)) | (refine dr_autot tabOk (by kernel_rfl) (by decide +kernel) ?_; (try replace hp := hp.drew))) | ((with_reducible refine fk_id ?_); first | (refine fk_mk ?_ ?_)) | ((with_reducible refine cl_id ?_); first | ((refine cl_eq ((hh2 (snAt (Hp.open (hp.get (j := 0) rfl)) (List.Sublist.refl _)))) rfl rfl ?_; rintro e w ⟨rfl, hcc⟩; replace hp := hp.call0 hcc; refine ⟨_, rfl, ?_⟩))) | ((with_reducible refine rd_id ?_); first | (apply rd_len; exact rfl; exact rfl; assumption) | (apply rd_ix; exact rfl; exact rfl; exact rfl; exact rfl; omega))) <;> (conv => whnf)))
  replace hp := hp.pick (rs' := [_, _]) [2, 0] (by decide) rfl
  have hsh := sshift_any (X := X2) (hp.get (j := 1) rfl) hb2 (by simp) (out_row hp (by simp)) (by rw [hs1]; simp) (by rw [hs1]; simp) (fun x => by rw [w2]; split <;> simp) (fun k => by rw [k2]; split <;> simp) (by omega) (by omega) (fun k => by rw [k2]; split <;> simp) (fun k y hy => by
    rw [k2] at hy
    split at hy
    · rename_i hk; simp at hy; rw [hy]; exact hk
    · simp at hy)
  refine cl_eq hsh rfl rfl ?_
  rintro e w ⟨rfl, lw3, nw3, lh3, nh3, t3, ht3, hI3, hm⟩
  clear hsh
  dsimp only at hI3
  rw [hs1, hl2] at hI3
  replace hp := hp.via (j := 1) rfl hm
  clear hm
  dsimp only [List.set] at hp
  refine ⟨_, rfl, ?_⟩
  have w3 := stk_one hI3 id7
  rw [if_pos rfl, w2, if_pos rfl] at w3
  have he6 : List.erase ([⟨5, 0⟩, ⟨6, 0⟩] : List Plc) ⟨5, 0⟩ = [⟨6, 0⟩] := by decide
  rw [he6] at w3
  obtain ⟨X3, hX3⟩ : ∃ X3 : Snx, X3 = { X2 with low := X2.low + 1, bs := t3, lw := lw3, nw := nw3, lh := lh3, nh := nh3 } := ⟨_, rfl⟩
  rw [← hX3] at hp
  replace w3 : (idx X3.lw id7).l = [⟨6, 0⟩] := by rw [hX3]; exact w3
  clear hX3 hI3 hh2
  have hh3 := fun {w : World} (h : SnAt w b X3) => shas_any h id7 (by rw [w3]; simp)
  rw [w3] at hh3
  dsimp only at hh3
  have hm6 : minP ⟨6, 0⟩ [] = ⟨6, 0⟩ := rfl
  rw [hm6] at hh3
  ((conv => whnf); repeat' ((first | ((with_reducible refine br_id ?_); first | (with_reducible (first | refine br_t ?_ | refine br_f ?_ | refine br_not ?_)) | ((with_reducible (first | refine br_dec (fun hx => ?_) (fun hx => ?_) | refine br_eq (fun hx => ?_) (fun hx => ?_) | refine br_ne (fun hx => ?_) (fun hx => ?_) | refine br_s (fun hx => ?_) (fun hx => ?_))) <;> (try (exfalso; first | omega | exact absurd hx (by assumption) | exact absurd (by assumption) hx)))) | ((with_reducible refine ar_id ?_); first | (refine ar_i64 (by omega) ?_) | (refine ar_u32 (by omega) ?_) | (refine ar_u64 (by omega) ?_) | (refine ar_u8 (by omega) ?_)) | ((with_reducible refine cn_id ?_); first | (refine cn rfl ?_) | (refine cn (by assumption) ?_) | (refine cn (by omega) ?_) | (refine cn (Chg.refl _ _) ?_)) | ((with_reducible refine ld_id ?_); first | (apply ld_hs hp; (focus ((repeat (first | exact Has.here | apply Has.there)); done)); exact rfl) | (refine ld_of (by assumption) ?_)) | ((with_reducible refine ldn_id ?_); first | (apply lda_hs hp; (focus ((repeat (first | exact Has.here | apply Has.there)); done)); exact rfl) | (apply ldn_hs hp; (focus ((repeat (first | exact Has.here | apply Has.there)); done)); exact rfl; exact rfl)) | ((with_reducible refine al_id ?_); first | (refine al_cel hp ?_; clear hp; intro bb w hp)) | ((with_reducible refine st_id ?_); first | (apply sta_hs hp; (focus ((repeat (first | exact Has.here | apply Has.there)); done)); exact rfl; exact rfl; clear hp; intro w hp; (try dsimp only [List.set] at hp)) | (apply st_hs hp; (focus ((repeat (first | exact Has.here | apply Has.there)); done)); exact rfl; exact rfl; clear hp; intro w hp; (try dsimp only [List.set] at hp))) | ((with_reducible refine gen_id ?_); first | ((refine gen_id7 rfl rfl ?_)) | (apply gen_build; exact rfl; exact rfl) | (apply gen_len; exact rfl; exact rfl; assumption) | (apply gen_min; exact rfl; exact rfl; exact rfl) | (apply gen_max; exact rfl; exact rfl; exact rfl) | (apply gen_ix; exact rfl; exact rfl; exact rfl; exact rfl; omega) | (apply gen_ixa; exact rfl; exact rfl; exact rfl; exact rfl; omega)) | ((with_reducible refine dr_id ?_); first | (refine dr_auto tabOk (by kernel_rfl) (by decide +kernel) ?_; (try replace hp := hp.drew)) | (refine dr_autog tabOk (by kernel_rfl) (by decide +kernel) ?_; (try replace hp := hp.drew)) | (refine dr_autot tabOk (by kernel_rfl) (by decide +kernel) ?_; (try replace hp := hp.drew))) | ((with_reducible refine fk_id ?_); first | (refine fk_mk ?_ ?_)) | ((with_reducible refine cl_id ?_); first | ((refine cl_eq ((hh3 (snAt (Hp.open (hp.get (j := 1) rfl)) (List.Sublist.refl _)))) rfl rfl ?_; rintro e w ⟨rfl, hcc⟩; replace hp := hp.call0 hcc; refine ⟨_, rfl, ?_⟩))) | ((with_reducible refine rd_id ?_); first | (apply rd_len; exact rfl; exact rfl; assumption) | (apply rd_ix; exact rfl; exact rfl; exact rfl; exact rfl; omega))) <;> (conv => whnf)))
  all_goals first | exact ps_val (v' := .bool true) rfl ⟨rfl, hp.chg⟩ | (exfalso; exact hx rfl) | (exfalso; exact absurd rfl hx) | (exfalso; revert hx; decide)
end Go.Proofs.Ytdncnepedkkamaa
/- See: rows that are only read, wherever they stand; several resources taken apart. No condition. -/
namespace Go.Proofs.Ytdncnepedkkamaa
set_option linter.unusedSimpArgs false
set_option linter.unusedVariables false
open Go.RowKit
section
variable {α : Type} {S : Nat → Prop} {w0 w w' : World} {rs rs' rs'' : List Res} {r r' : Res} {enc : α → List Value} {e : TypeId} {sz j : Nat} {s : Sl α}
/-- a row that is only read -/
def seeR {α : Type} (sz : Nat) (enc : α → List Value) (s : Sl α) : Res where
  dom b := s.v.ownBlock = some b
  ok w := SlAt w.heap.size w enc sz s ∧ ∀ b, s.v.ownBlock = some b → b < w.heap.size
  lt w h b hb := h.2 b hb
  loc w w' h hk := by
    have hlt : ∀ b, s.v.ownBlock = some b → b < w'.heap.size := fun b hb => by
      have h1 := h b hb
      have h2 := hk.2 b hb
      rw [Array.getElem?_eq_getElem h2] at h1
      exact heap_lt h1
    refine ⟨⟨hk.1.le, hk.1.max, hk.1.nil, fun hn => ?_⟩, hlt⟩
    obtain ⟨b, o, h1, h2, h3⟩ := hk.1.row hn
    have hb : s.v.ownBlock = some b := by simp [Sl.v, Value.ownBlock, h1]
    exact ⟨b, o, h1, hlt b hb, fun i x hi j v hj => (World.cell?_of_block (h b hb)).trans (h3 i x hi j v hj)⟩
theorem seeR_ok : (seeR sz enc s).ok w ↔ SlAt w.heap.size w enc sz s ∧ ∀ b, s.v.ownBlock = some b → b < w.heap.size := Iff.rfl
theorem seeR_dom {b : Nat} : (seeR sz enc s).dom b ↔ s.v.ownBlock = some b := Iff.rfl
theorem Hp.see (h : Hp S w0 w rs) (hj : rs[j]? = some (seeR sz enc s)) : SlAt w.heap.size w enc sz s := (h.get hj).1
theorem see_of (h : (rowR e sz enc s).ok w) : (seeR sz enc s).ok w := ⟨rowR_at h, fun b hb => (rowR e sz enc s).lt w h b (rowR_dom.2 hb)⟩
theorem Made.see (m : Made (rowR e sz enc s) w w') : Made (seeR sz enc s) w w' := ⟨m.chg, see_of m.ok, fun b hb => m.dom b (rowR_dom.2 hb)⟩
theorem Made.mut (m : Made r' w w') : Mut r r' w w' := ⟨m.chg.of0, m.ok, fun b hb => .inr (m.dom b hb)⟩
theorem see_cut (h : (seeR sz enc s).ok w) {lo hi : Nat} (h1 : lo ≤ hi) (h2 : hi ≤ s.l.length) (hc : Chg N0 w w') : Mut (seeR sz enc s) (seeR sz enc (s.cut sz lo hi)) w w' := by
  have hd : ∀ b, (s.cut sz lo hi).v.ownBlock = some b → s.v.ownBlock = some b := fun b hb => by
    cases hA : s.A with
    | none => simp [Sl.cut, Sl.v, hA, Value.ownBlock] at hb
    | some a =>
      simp only [Sl.cut, Sl.v, hA, Option.map_some] at hb
      simp only [Sl.v, hA, Value.ownBlock]
      split at hb
      · exact hb
      · have h1 : some (a.add (lo * sz)).block = some b := hb
        rw [← h1]
        unfold Addr.add
        split <;> rfl
  have hk := (seeR sz enc s).keep0 h hc
  exact ⟨hc.of0, ⟨hk.1.cut h1 h2, fun b hb => hk.2 b (hd b hb)⟩, fun b hb => .inl (hd b hb)⟩
end
end Go.Proofs.Ytdncnepedkkamaa
