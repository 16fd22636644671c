/- Rested: a state at rest: the program's, in new memory; the document's. Of states that are few. -/
import Derived.Test.YteabebmlclgakaaGreatMImprintRests25
import Derived.Test.YteabebmlclgakaaGreatMImprintRests31
import Derived.Test.YteabebmlclgakaaGreatMImprintRests10
import Derived.Test.YteabebmlclgakaaGreatMImprintRests11
import Derived.Test.YteabebmlclgakaaGreatMImprintRestssTailS
namespace Go.Proofs.YteabebmlclgakaaGreat
set_option linter.unusedSimpArgs false
set_option linter.unusedVariables false
open Go.RowKit
set_option maxRecDepth 100000
set_option maxHeartbeats 4000000
def Sta.z : Sta := ⟨⟨0, 0, 0, 0, 0, 0⟩, 0, 0, 0, Sl.nil, Sl.nil, Sl.nil, Sl.nil⟩
theorem el_blkR : ElT Tryz.prog 26 54 65 88 := elt_of (z := Blk.v ⟨Id.z, Id.z, Sl.nil⟩) Tryz.underlying26 (by kernel_rfl) rfl (by omega)
theorem blk_oneR {l : List Blk} : ∀ x ∈ l, ∀ u ∈ Blk.c x, u.oneCell' = true := fun x _ u hu => List.all_eq_true.1 (show (Blk.c x).all Value.oneCell' = true from rfl) u hu
theorem rested_any {B : Nat} {w0 : World} {x : Sta} (h : StaAt B w0 x) (hBw : B ≤ w0.heap.size) (hf : FewI x) : Calls Tryz.prog 11 #[x.v] w0 fun e w' => ∃ r : Sta, r.p = restP x.p ∧ e = .returned r.v ∧ Made (star (staRs r)) w0 w' := by
  have hp := Hp.start (S := N0) w0
  have hB : ∀ b, N0 b → B ≤ b := fun _ hh => hh.elim
  have u1 := Tryz.underlying27
  have u2 := Tryz.underlying28
  have u3 := Tryz.underlying26
  have u4 := Tryz.underlying29
  have f1 := hf.ses
  have f2 := hf.blobs
  have f3 := hf.win
  have f4 := hf.jobs
  refine calls_x (args := [_]) tabOk Tryz.func11 Tryz.ntmps11 Tryz.results11 rfl (Nat.le_of_ble_eq_true rfl) ?_
  ((conv => whnf); repeat' ((first | ((with_reducible refine cn_id ?_); (refine cn rfl ?_)) | ((with_reducible refine ld_id ?_); (apply ld_hs hp; (focus ((repeat (first | exact Has.here | apply Has.there)); done)); exact rfl)) | ((with_reducible refine ldn_id ?_); (apply lda_hs hp; (focus ((repeat (first | exact Has.here | apply Has.there)); done)); exact rfl)) | ((with_reducible refine al_id ?_); (refine al_cel hp ?_; clear hp; intro bb w hp)) | ((with_reducible refine st_id ?_); first | (apply sta_hs hp; (focus ((repeat (first | exact Has.here | apply Has.there)); done)); exact rfl; exact rfl; clear hp; intro w hp; (try dsimp only [List.set] at hp)) | (apply st_hs hp; (focus ((repeat (first | exact Has.here | apply Has.there)); done)); exact rfl; exact rfl; clear hp; intro w hp; (try dsimp only [List.set] at hp))) | ((with_reducible refine gen_id ?_); (apply gen_len; exact rfl; exact rfl; assumption))) <;> (conv => whnf)))
  obtain ⟨b3, hb3⟩ : ∃ b, b = bb := ⟨_, rfl⟩
  subst hb3
  obtain ⟨b2, hb2⟩ : ∃ b, b = bb := ⟨_, rfl⟩
  subst hb2
  obtain ⟨b1, hb1⟩ : ∃ b, b = bb := ⟨_, rfl⟩
  subst hb1
  have hp0 : Hp N0 w0 w (cel b3 31 (Sta.c { x with win := Sl.nil, blobs := Sl.nil, jobs := Sl.nil }).toArray :: cel b2 31 (Sta.c Sta.z).toArray :: cel b1 31 x.c.toArray :: winRs Sl.nil) :=
    (hp.nilRow 54 65 Blk.c).perm (List.perm_append_singleton _ [_, _, _]).symm
  clear hp
  refine lp_inv (α := Nat × Sl Blk) (fun a => [(1, ptr b1), (2, ptr b2), (3, ptr b3), (15, x.win.v), (16, i64 x.win.l.length), (17, i64 a.1)]) (fun a w => a.1 ≤ x.win.l.length ∧ a.2.l.map Blk.p = (x.win.l.take a.1).map Blk.p ∧ Hp N0 w0 w (cel b3 31 (Sta.c { x with win := a.2, blobs := Sl.nil, jobs := Sl.nil }).toArray :: cel b2 31 (Sta.c Sta.z).toArray :: cel b1 31 x.c.toArray :: winRs a.2)) (fun a => x.win.l.length - a.1) (0, Sl.nil) (by (repeat' (first | exact trivial | (refine ⟨rfl, ?_⟩)))) ⟨by omega, rfl, hp0⟩ ?_
  clear hp0
  rintro ⟨i, W⟩ e0 w ⟨hi, hW, hp⟩
  dsimp only at hi hW hp ⊢
  have hWl : W.l.length = i := by
    have := congrArg List.length hW
    rw [List.length_map, List.length_map, List.length_take] at this
    omega
  rcases Nat.lt_or_ge i x.win.l.length with hlt | hge
  · obtain ⟨b, o, y, hA, hbb, hrow, hyy⟩ := h.win.has hlt
    have hmem := List.mem_of_getElem? hyy
    have hy := hf.tx y hmem
    ((conv => whnf); repeat' ((first | ((with_reducible refine br_id ?_); ((with_reducible refine br_dec (fun hx => ?_) (fun hx => ?_)) <;> (try (exfalso; first | omega | exact absurd hx (by assumption) | exact absurd (by assumption) hx)))) | ((with_reducible refine cn_id ?_); (refine cn rfl ?_)) | ((with_reducible refine ld_id ?_); (apply ld_hs hp; (focus ((repeat (first | exact Has.here | apply Has.there)); done)); exact rfl)) | ((with_reducible refine ldn_id ?_); first | ((refine ldn_rowx hp hB (by assumption) (by assumption) _ rfl (by assumption) rfl ?_)) | (apply lda_hs hp; (focus ((repeat (first | exact Has.here | apply Has.there)); done)); exact rfl)) | ((with_reducible refine al_id ?_); (refine al_cel hp ?_; clear hp; intro bb w hp)) | ((with_reducible refine st_id ?_); (apply sta_hs hp; (focus ((repeat (first | exact Has.here | apply Has.there)); done)); exact rfl; exact rfl; clear hp; intro w hp; (try dsimp only [List.set] at hp))) | ((with_reducible refine gen_id ?_); ((refine gen_ixs rfl rfl (by assumption) rfl rfl (by omega) ?_))) | ((with_reducible refine dr_id ?_); ((refine dr_autos [] 5 tabOk (by kernel_rfl) (by decide +kernel) ?_); replace hp := hp.drew))) <;> (conv => whnf)))
    refine cl_eq (copy_any ((h.tx y hmem).keep hp.chg hB) (by omega)) rfl rfl ?_
    rintro e w ⟨s, hs, rfl, hm⟩
    replace hp := hp.add hm
    replace hm := hm.chg
    refine ⟨_, rfl, ?_⟩
    obtain ⟨y', hy'⟩ : ∃ y' : Blk, y' = { y with tx := s } := ⟨_, rfl⟩
    have hyp : y'.p = y.p := by rw [hy']; simp [Blk.p, hs]
    have hys : rowR 44 32 Id.c s = btxR y' := by rw [hy']
    have hyv : Blk.v { y with tx := s } = Blk.v y' := by rw [hy']
    rw [hyv]
    rw [hys] at hp
    clear hys hyv hy'
    ((conv => whnf); repeat' ((first | ((with_reducible refine ar_id ?_); (refine ar_i64 (by omega) ?_)) | ((with_reducible refine cn_id ?_); first | (refine cn rfl ?_) | (refine cn (by assumption) ?_)) | ((with_reducible refine st_id ?_); (apply st_hs hp; (focus ((repeat (first | exact Has.here | apply Has.there)); done)); exact rfl; exact rfl; clear hp; intro w hp; (try dsimp only [List.set] at hp))) | ((with_reducible refine gen_id ?_); first | ((refine gen_bs rfl hp el_blkR Blk.c [y'] [Blk.v y'] rfl rfl rfl (fun _ hh => by simp at hh; subst hh; rfl) (by omega) ?_); clear hp; intro br w hp) | ((refine gen_app (s := W) rfl hp 6 rfl el_blkR rfl ⟨some ⟨br, 0, none⟩, 1, [y']⟩ rfl (hp.row (j := 0) rfl) (fun _ _ => rfl) blk_oneR (by simp only [List.length_cons, List.length_nil]; omega) (by simp only [maxLen, List.length_cons, List.length_nil]; omega) ?_); clear hp; intro A2 c2 w hp; dsimp only [List.set] at hp))) <;> (conv => whnf)))
    refine lp_next (i + 1, ⟨A2, c2, W.l ++ [y']⟩) (by show x.win.l.length - (i + 1) < x.win.l.length - i; omega) (by (repeat' (first | exact trivial | (refine ⟨rfl, ?_⟩)))) ⟨by show i + 1 ≤ _; omega, ?_, ?_⟩
    · show (W.l ++ [y']).map Blk.p = _
      rw [List.take_add_one, hyy, List.map_append, List.map_append, hW]
      simp [hyp]
    · have h1 := hp.tail.sub (rs' := _ :: _ :: _ :: _ :: _ :: W.l.map btxR) (List.Sublist.cons_cons _ (List.Sublist.cons _ (List.Sublist.refl _)))
      have h2 := h1.perm (List.perm_append_singleton _ _).symm
      show Hp N0 w0 w (_ :: _ :: _ :: _ :: (W.l ++ [y']).map btxR)
      rw [List.map_append]
      exact h2
  rw [List.take_of_length_le hge] at hW
  replace hp : Hp N0 w0 w (cel b3 31 (Sta.c { x with win := W, blobs := Sl.nil, jobs := Sl.nil }).toArray :: cel b2 31 (Sta.c Sta.z).toArray :: cel b1 31 x.c.toArray :: [star (winRs W)]) := by
    have h1 := (hp.perm (List.perm_append_comm (l₁ := [_, _, _]) (l₂ := winRs W))).fold (winRs W).length
    rw [List.take_left, List.drop_left] at h1
    exact h1.perm (List.perm_append_singleton _ [_, _, _]).symm
  ((conv => whnf); repeat' ((first | ((with_reducible refine br_id ?_); ((with_reducible refine br_dec (fun hx => ?_) (fun hx => ?_)) <;> (try (exfalso; first | omega | exact absurd hx (by assumption) | exact absurd (by assumption) hx)))) | ((with_reducible refine cn_id ?_); (refine cn rfl ?_)) | ((with_reducible refine ld_id ?_); (apply ld_hs hp; (focus ((repeat (first | exact Has.here | apply Has.there)); done)); exact rfl)) | ((with_reducible refine st_id ?_); (apply st_hs hp; (focus ((repeat (first | exact Has.here | apply Has.there)); done)); exact rfl; exact rfl; clear hp; intro w hp; (try dsimp only [List.set] at hp))) | ((with_reducible refine gen_id ?_); first | ((refine gen_app0 rfl hp el_ses rfl x.ses rfl (h.ses.keep hp.chg hB) (fun _ _ => rfl) ses_one (by omega) (by simp only [maxLen]; omega) ?_); clear hp; intro A1 c1 w hcc hp) | (apply gen_len; exact rfl; exact rfl; assumption))) <;> (conv => whnf)))
  have hp0 : Hp N0 w0 w (cel b3 31 (Sta.c { x with win := W, ses := ⟨A1, c1, x.ses.l⟩, blobs := Sl.nil, jobs := Sl.nil }).toArray :: cel b2 31 (Sta.c Sta.z).toArray :: cel b1 31 x.c.toArray :: star (winRs W) :: sesR ⟨A1, c1, x.ses.l⟩ :: blobRs Sl.nil) := by
    have h1 := hp.perm (List.perm_append_singleton _ [_, _, _, _]).symm
    exact (h1.nilRow 40 19 Blob.c).perm (List.perm_append_singleton _ [_, _, _, _, _]).symm
  obtain ⟨S1, hS1⟩ : ∃ S1 : Sl Sess, S1 = ⟨A1, c1, x.ses.l⟩ := ⟨_, rfl⟩
  have hS1l : S1.l = x.ses.l := by rw [hS1]
  rw [← hS1] at hp0
  clear hp hS1
  refine lp_inv (α := Nat × Sl Blob) (fun a => [(1, ptr b1), (2, ptr b2), (3, ptr b3), (34, x.blobs.v), (35, i64 x.blobs.l.length), (36, i64 a.1)]) (fun a w => a.1 ≤ x.blobs.l.length ∧ a.2.l.map Blob.p = (x.blobs.l.take a.1).map Blob.p ∧ Hp N0 w0 w (cel b3 31 (Sta.c { x with win := W, ses := S1, blobs := a.2, jobs := Sl.nil }).toArray :: cel b2 31 (Sta.c Sta.z).toArray :: cel b1 31 x.c.toArray :: star (winRs W) :: sesR S1 :: blobRs a.2)) (fun a => x.blobs.l.length - a.1) (0, Sl.nil) (by (repeat' (first | exact trivial | (refine ⟨rfl, ?_⟩)))) ⟨by omega, rfl, hp0⟩ ?_
  clear hp0
  rintro ⟨i, V⟩ e0 w ⟨hi, hV, hp⟩
  dsimp only at hi hV hp ⊢
  have hVl : V.l.length = i := by
    have := congrArg List.length hV
    rw [List.length_map, List.length_map, List.length_take] at this
    omega
  rcases Nat.lt_or_ge i x.blobs.l.length with hlt | hge
  · obtain ⟨b, o, y, hA, hbb, hrow, hyy⟩ := h.blobs.row.has hlt
    have hmem := List.mem_of_getElem? hyy
    have hy := hf.data y hmem
    have hya := h.blobs.data y hmem
    ((conv => whnf); repeat' ((first | ((with_reducible refine br_id ?_); ((with_reducible refine br_dec (fun hx => ?_) (fun hx => ?_)) <;> (try (exfalso; first | omega | exact absurd hx (by assumption) | exact absurd (by assumption) hx)))) | ((with_reducible refine ar_id ?_); (refine ar_i64 (by omega) ?_)) | ((with_reducible refine cn_id ?_); (refine cn rfl ?_)) | ((with_reducible refine ld_id ?_); (apply ld_hs hp; (focus ((repeat (first | exact Has.here | apply Has.there)); done)); exact rfl)) | ((with_reducible refine ldn_id ?_); first | ((refine ldn_rowx hp hB (by assumption) (by assumption) _ rfl (by assumption) rfl ?_)) | (apply lda_hs hp; (focus ((repeat (first | exact Has.here | apply Has.there)); done)); exact rfl)) | ((with_reducible refine al_id ?_); (refine al_cel hp ?_; clear hp; intro bb w hp)) | ((with_reducible refine st_id ?_); first | (apply sta_hs hp; (focus ((repeat (first | exact Has.here | apply Has.there)); done)); exact rfl; exact rfl; clear hp; intro w hp; (try dsimp only [List.set] at hp)) | (apply st_hs hp; (focus ((repeat (first | exact Has.here | apply Has.there)); done)); exact rfl; exact rfl; clear hp; intro w hp; (try dsimp only [List.set] at hp))) | ((with_reducible refine gen_id ?_); first | ((refine gen_ixs rfl rfl (by assumption) rfl rfl (by omega) ?_)) | ((refine gen_app0 rfl hp el_u8 rfl y.data rfl (hya.keep hp.chg hB) (fun _ _ => rfl) u8_one (by omega) (by simp only [maxLen]; omega) ?_); clear hp; intro A3 c3 w hcc hp) | ((refine gen_bs rfl hp el_blob Blob.c [{ y with data := ⟨A3, c3, y.data.l⟩ }] [Blob.v { y with data := ⟨A3, c3, y.data.l⟩ }] rfl rfl rfl (fun _ hh => by simp at hh; subst hh; rfl) (by omega) ?_); clear hp; intro br w hp) | ((refine gen_app (s := V) rfl hp 8 rfl el_blob rfl ⟨some ⟨br, 0, none⟩, 1, [{ y with data := ⟨A3, c3, y.data.l⟩ }]⟩ rfl (hp.row (j := 0) rfl) (fun _ _ => rfl) blob_one (by simp only [List.length_cons, List.length_nil]; omega) (by simp only [maxLen, List.length_cons, List.length_nil]; omega) ?_); clear hp; intro A2 c2 w hp; dsimp only [List.set] at hp))) <;> (conv => whnf)))
    refine lp_next (i + 1, ⟨A2, c2, V.l ++ [{ y with data := ⟨A3, c3, y.data.l⟩ }]⟩) (by show x.blobs.l.length - (i + 1) < x.blobs.l.length - i; omega) (by (repeat' (first | exact trivial | (refine ⟨rfl, ?_⟩)))) ⟨by show i + 1 ≤ _; omega, ?_, ?_⟩
    · show (V.l ++ [_]).map Blob.p = _
      rw [List.take_add_one, hyy, List.map_append, List.map_append, hV]
      simp [Blob.p]
    · have h1 := hp.tail.sub (rs' := _ :: _ :: _ :: _ :: _ :: _ :: _ :: V.l.map bdatR) (List.Sublist.cons_cons _ (List.Sublist.cons _ (List.Sublist.refl _)))
      have h2 := h1.perm (List.perm_append_singleton _ _).symm
      show Hp N0 w0 w (_ :: _ :: _ :: _ :: _ :: _ :: (V.l ++ [_]).map bdatR)
      rw [List.map_append]
      exact h2
  rw [List.take_of_length_le hge] at hV
  replace hp : Hp N0 w0 w (cel b3 31 (Sta.c { x with win := W, ses := S1, blobs := V, jobs := Sl.nil }).toArray :: cel b2 31 (Sta.c Sta.z).toArray :: cel b1 31 x.c.toArray :: star (winRs W) :: sesR S1 :: star (blobRs V) :: jobRs Sl.nil) := by
    have h1 := (hp.perm (List.perm_append_comm (l₁ := [_, _, _, _, _]) (l₂ := blobRs V))).fold (blobRs V).length
    rw [List.take_left, List.drop_left] at h1
    exact ((h1.perm (List.perm_append_singleton _ [_, _, _, _, _]).symm).nilRow 49 38 Job.c).perm (List.perm_append_singleton _ [_, _, _, _, _, _]).symm
  ((conv => whnf); repeat' ((first | ((with_reducible refine br_id ?_); ((with_reducible refine br_dec (fun hx => ?_) (fun hx => ?_)) <;> (try (exfalso; first | omega | exact absurd hx (by assumption) | exact absurd (by assumption) hx)))) | ((with_reducible refine ld_id ?_); (apply ld_hs hp; (focus ((repeat (first | exact Has.here | apply Has.there)); done)); exact rfl)) | ((with_reducible refine gen_id ?_); (apply gen_len; exact rfl; exact rfl; assumption))) <;> (conv => whnf)))
  refine lp_inv (α := Nat × Sl Job) (fun a => [(1, ptr b1), (2, ptr b2), (3, ptr b3), (52, x.jobs.v), (53, i64 x.jobs.l.length), (54, i64 a.1)]) (fun a w => a.1 ≤ x.jobs.l.length ∧ a.2.l.map Job.p = ((x.jobs.l.take a.1).map Job.p).map restJ ∧ Hp N0 w0 w (cel b3 31 (Sta.c { x with win := W, ses := S1, blobs := V, jobs := a.2 }).toArray :: cel b2 31 (Sta.c Sta.z).toArray :: cel b1 31 x.c.toArray :: star (winRs W) :: sesR S1 :: star (blobRs V) :: jobRs a.2)) (fun a => x.jobs.l.length - a.1) (0, Sl.nil) (by (repeat' (first | exact trivial | (refine ⟨rfl, ?_⟩)))) ⟨by omega, rfl, hp⟩ ?_
  clear hp
  rintro ⟨i, J⟩ e0 w ⟨hi, hJ, hp⟩
  dsimp only at hi hJ hp ⊢
  have hJl : J.l.length = i := by
    have := congrArg List.length hJ
    rw [List.length_map, List.length_map, List.length_map, List.length_take] at this
    omega
  rcases Nat.lt_or_ge i x.jobs.l.length with hlt | hge
  · obtain ⟨b, o, y, hA, hbb, hrow, hyy⟩ := h.jobs.has hlt
    have hmem := List.mem_of_getElem? hyy
    have hya := h.pay y hmem
    ((conv => whnf); repeat' ((first | ((with_reducible refine br_id ?_); ((with_reducible refine br_dec (fun hx => ?_) (fun hx => ?_)) <;> (try (exfalso; first | omega | exact absurd hx (by assumption) | exact absurd (by assumption) hx)))) | ((with_reducible refine cn_id ?_); (refine cn rfl ?_)) | ((with_reducible refine ldn_id ?_); first | ((refine ldn_rowx hp hB (by assumption) (by assumption) _ rfl (by assumption) rfl ?_)) | (apply ldn_hs hp; (focus ((repeat (first | exact Has.here | apply Has.there)); done)); exact rfl; exact rfl)) | ((with_reducible refine al_id ?_); (refine al_cel hp ?_; clear hp; intro bb w hp)) | ((with_reducible refine st_id ?_); (apply sta_hs hp; (focus ((repeat (first | exact Has.here | apply Has.there)); done)); exact rfl; exact rfl; clear hp; intro w hp; (try dsimp only [List.set] at hp))) | ((with_reducible refine gen_id ?_); ((refine gen_ixs rfl rfl (by assumption) rfl rfl (by omega) ?_)))) <;> (conv => whnf)))
    refine cl_eq (copyp_any (hya.keep hp.chg hB) (Nat.le_trans hBw hp.chg.size) (hf.pay y hmem)) rfl rfl ?_
    rintro e w ⟨r, hr, rfl, hm⟩
    replace hp := hp.add hm
    replace hm := hm.chg
    refine ⟨_, rfl, ?_⟩
    ((conv => whnf); repeat' ((first | ((with_reducible refine ar_id ?_); (refine ar_i64 (by omega) ?_)) | ((with_reducible refine cn_id ?_); (refine cn rfl ?_)) | ((with_reducible refine ld_id ?_); (apply ld_hs hp; (focus ((repeat (first | exact Has.here | apply Has.there)); done)); exact rfl)) | ((with_reducible refine ldn_id ?_); (apply lda_hs hp; (focus ((repeat (first | exact Has.here | apply Has.there)); done)); exact rfl)) | ((with_reducible refine st_id ?_); (apply st_hs hp; (focus ((repeat (first | exact Has.here | apply Has.there)); done)); exact rfl; exact rfl; clear hp; intro w hp; (try dsimp only [List.set] at hp))) | ((with_reducible refine gen_id ?_); first | ((refine gen_bs rfl hp el_job Job.c [{ y with live := -1, pay := r }] [Job.v { y with live := -1, pay := r }] rfl rfl rfl (fun _ hh => by simp at hh; subst hh; rfl) (by omega) ?_); clear hp; intro br w hp) | ((refine gen_app (s := J) rfl hp 9 rfl el_job rfl ⟨some ⟨br, 0, none⟩, 1, [{ y with live := -1, pay := r }]⟩ rfl (hp.row (j := 0) rfl) (fun _ _ => rfl) job_one (by simp only [List.length_cons, List.length_nil]; omega) (by simp only [maxLen, List.length_cons, List.length_nil]; omega) ?_); clear hp; intro A2 c2 w hp; dsimp only [List.set] at hp))) <;> (conv => whnf)))
    obtain ⟨y', hy'⟩ : ∃ y' : Job, y' = { y with live := -1, pay := r } := ⟨_, rfl⟩
    have hyp : y'.p = restJ y.p := by rw [hy']; simp [Job.p, restJ, hr]
    have hys : star (payRs r) = jpayR y' := by rw [hy']; rfl
    rw [hys, ← hy'] at hp
    refine lp_next (i + 1, ⟨A2, c2, J.l ++ [y']⟩) (by show x.jobs.l.length - (i + 1) < x.jobs.l.length - i; omega) (by rw [hy']; (repeat' (first | exact trivial | (refine ⟨rfl, ?_⟩)))) ⟨by show i + 1 ≤ _; omega, ?_, ?_⟩
    · show (J.l ++ [y']).map Job.p = _
      rw [List.take_add_one, hyy, List.map_append, List.map_append, List.map_append, hJ]
      simp [hyp]
    · have h1 := hp.tail.sub (rs' := _ :: _ :: _ :: _ :: _ :: _ :: _ :: _ :: J.l.map jpayR) (List.Sublist.cons_cons _ (List.Sublist.cons _ (List.Sublist.refl _)))
      have h2 := h1.perm (List.perm_append_singleton _ _).symm
      show Hp N0 w0 w (_ :: _ :: _ :: _ :: _ :: _ :: _ :: (J.l ++ [y']).map jpayR)
      rw [List.map_append]
      exact h2
  rw [List.take_of_length_le hge] at hJ
  ((conv => whnf); repeat' ((first | ((with_reducible refine br_id ?_); ((with_reducible refine br_dec (fun hx => ?_) (fun hx => ?_)) <;> (try (exfalso; first | omega | exact absurd hx (by assumption) | exact absurd (by assumption) hx)))) | ((with_reducible refine cn_id ?_); (refine cn rfl ?_)) | ((with_reducible refine ldn_id ?_); (apply lda_hs hp; (focus ((repeat (first | exact Has.here | apply Has.there)); done)); exact rfl)) | ((with_reducible refine st_id ?_); (apply sta_hs hp; (focus ((repeat (first | exact Has.here | apply Has.there)); done)); exact rfl; exact rfl; clear hp; intro w hp; (try dsimp only [List.set] at hp)))) <;> (conv => whnf)))
  refine ps_val (v' := Sta.v { x with win := W, ses := S1, blobs := V, jobs := J }) rfl ⟨{ x with win := W, ses := S1, blobs := V, jobs := J }, ?_, rfl, ?_⟩
  · unfold Sta.p restP
    simp only [hW, hS1l, hV, hJ]
  · have h1 := (hp.perm (List.perm_append_comm (l₁ := [_, _, _, _, _, _]) (l₂ := jobRs J))).fold (jobRs J).length
    rw [List.take_left, List.drop_left] at h1
    exact ((h1.perm (List.perm_append_singleton _ [_, _, _, _, _, _]).symm).pick (rs' := [_, _, _, _]) [3, 4, 5, 6] (by decide) rfl).made (.refl _)
/-- a job at rest, in the same memory -/
def restB (j : Job) : Job := { j with live := -1 }
theorem restB_p (j : Job) : (restB j).p = restJ j.p := rfl
theorem half_set {α : Type} {f : α → α} {l : List α} {i : Nat} {y : α} (h : l[i]? = some y) : ((l.take i).map f ++ l.drop i).set i (f y) = (l.take (i + 1)).map f ++ l.drop (i + 1) ∧ ((l.take i).map f ++ l.drop i)[i]? = some y := by
  have hlt : i < l.length := (List.getElem?_eq_some_iff.1 h).1
  have hl : ((l.take i).map f).length = i := by rw [List.length_map, List.length_take]; omega
  have hd : l.drop i = y :: l.drop (i + 1) := by
    rw [List.drop_eq_getElem_cons hlt]
    rw [List.getElem?_eq_getElem hlt] at h
    rw [Option.some.inj h]
  constructor
  · rw [List.set_append_right _ _ (by omega), hl, Nat.sub_self, hd, List.set_cons_zero, List.take_add_one, h, List.map_append]
    simp
  · rw [List.getElem?_append_right (by omega), hl, Nat.sub_self, hd]
    rfl
theorem rrested_any {B : Nat} {w0 : World} {x : Sta} (h : StaAt B w0 x) (hn : x.jobs.l.length ≤ 600) : Calls Tryz.prog 13 #[x.v] w0 fun e w' => ∃ J : Sl Job, J.l = x.jobs.l.map restB ∧ e = .returned (Sta.v { x with jobs := J }) ∧ Made (rowR 49 38 Job.c J) w0 w' := by
  have hp := Hp.start (S := N0) w0
  have hB : ∀ b, N0 b → B ≤ b := fun _ hh => hh.elim
  have u4 := Tryz.underlying29
  refine calls_x (args := [_]) tabOk Tryz.func13 Tryz.ntmps13 Tryz.results13 rfl (Nat.le_of_ble_eq_true rfl) ?_
  ((conv => whnf); repeat' ((first | ((with_reducible refine ld_id ?_); (apply ld_hs hp; (focus ((repeat (first | exact Has.here | apply Has.there)); done)); exact rfl)) | ((with_reducible refine al_id ?_); (refine al_cel hp ?_; clear hp; intro bb w hp)) | ((with_reducible refine gen_id ?_); first | ((refine gen_bs rfl hp el_job Job.c [] [] rfl rfl rfl (fun _ hh => by cases hh) (by omega) ?_); clear hp; intro br w hp) | ((refine gen_app (s := ⟨some ⟨br, 0, none⟩, 0, []⟩) rfl hp 0 rfl el_job rfl x.jobs rfl (h.jobs.keep hp.chg hB) (fun _ _ => rfl) job_one (by simp only [List.length_nil]; omega) (by simp only [maxLen, List.length_nil]; omega) ?_); clear hp; intro A2 c2 w hp; dsimp only [List.set] at hp))) <;> (conv => whnf)))
  obtain ⟨b2, hb2⟩ : ∃ b, b = bb := ⟨_, rfl⟩
  subst hb2
  obtain ⟨b1, hb1⟩ : ∃ b, b = bb := ⟨_, rfl⟩
  subst hb1
  refine lp_inv (α := Nat) (fun i => [(1, ptr b1), (2, ptr b2), (3, .slice A2 x.jobs.l.length c2), (4, i64 i)]) (fun i w => i ≤ x.jobs.l.length ∧ Hp N0 w0 w [rowR 49 38 Job.c ⟨A2, c2, (x.jobs.l.take i).map restB ++ x.jobs.l.drop i⟩, cel b2 31 (Sta.c Sta.z).toArray, cel b1 31 x.c.toArray]) (fun i => x.jobs.l.length - i) 0 (by (repeat' (first | exact trivial | (refine ⟨rfl, ?_⟩)))) ⟨by omega, hp⟩ ?_
  clear hp
  rintro i e0 w ⟨hi, hp⟩
  dsimp only at hi hp ⊢
  rcases Nat.lt_or_ge i x.jobs.l.length with hlt | hge
  · have hyy := List.getElem?_eq_getElem hlt
    obtain ⟨h1, h2⟩ := half_set (f := restB) hyy
    generalize x.jobs.l[i] = y at hyy h1 h2
    have hll : ((x.jobs.l.take i).map restB ++ x.jobs.l.drop i).length = x.jobs.l.length := by simp; omega
    obtain ⟨b, o, z, hA, hbb, hrow, hzz⟩ := (hp.row (j := 0) rfl).has (i := i) (by show i < ((x.jobs.l.take i).map restB ++ x.jobs.l.drop i).length; omega)
    have hA' : A2 = some ⟨b, o, none⟩ := hA
    have st_half : ∀ {a : Addr} {k : World → Prop}, a = ⟨b, o + i * 38 + 36, none⟩ → (∀ w', Hp N0 w0 w' [rowR 49 38 Job.c ⟨A2, c2, (x.jobs.l.take (i + 1)).map restB ++ x.jobs.l.drop (i + 1)⟩, cel b2 31 (Sta.c Sta.z).toArray, cel b1 31 x.c.toArray] → k w') → St w a [i64 (-1)] k := fun ha hk => by
      refine st_own hp 0 rfl hA' i 36 ha h2 (restB y) rfl (by simp) rfl fun w' hp' => hk w' ?_
      dsimp only [List.set] at hp'
      rwa [h1] at hp'
    ((conv => whnf); repeat' ((first | ((with_reducible refine br_id ?_); ((with_reducible refine br_dec (fun hx => ?_) (fun hx => ?_)) <;> (try (exfalso; first | omega | exact absurd hx (by assumption) | exact absurd (by assumption) hx)))) | ((with_reducible refine ar_id ?_); (refine ar_i64 (by omega) ?_)) | ((with_reducible refine cn_id ?_); (refine cn rfl ?_)) | ((with_reducible refine st_id ?_); ((refine st_half rfl ?_); clear hp; intro w hp)) | ((with_reducible refine gen_id ?_); first | ((refine gen_ixs rfl rfl hA' rfl rfl (by omega) ?_)) | (apply gen_len; exact rfl; exact rfl; assumption))) <;> (conv => whnf)))
    exact lp_next (i + 1) (by show x.jobs.l.length - (i + 1) < x.jobs.l.length - i; omega) (by (repeat' (first | exact trivial | (refine ⟨rfl, ?_⟩)))) ⟨by show i + 1 ≤ _; omega, hp⟩
  · have hJ : (x.jobs.l.take i).map restB ++ x.jobs.l.drop i = x.jobs.l.map restB := by rw [List.take_of_length_le hge, List.drop_of_length_le hge, List.append_nil]
    rw [hJ] at hp
    have hll : (x.jobs.l.map restB).length = x.jobs.l.length := by simp
    ((conv => whnf); repeat' ((first | ((with_reducible refine br_id ?_); ((with_reducible refine br_dec (fun hx => ?_) (fun hx => ?_)) <;> (try (exfalso; first | omega | exact absurd hx (by assumption) | exact absurd (by assumption) hx)))) | ((with_reducible refine cn_id ?_); (refine cn rfl ?_)) | ((with_reducible refine ldn_id ?_); (apply lda_hs hp; (focus ((repeat (first | exact Has.here | apply Has.there)); done)); exact rfl)) | ((with_reducible refine st_id ?_); first | (apply sta_hs hp; (focus ((repeat (first | exact Has.here | apply Has.there)); done)); exact rfl; exact rfl; clear hp; intro w hp; (try dsimp only [List.set] at hp)) | (apply st_hs hp; (focus ((repeat (first | exact Has.here | apply Has.there)); done)); exact rfl; exact rfl; clear hp; intro w hp; (try dsimp only [List.set] at hp))) | ((with_reducible refine gen_id ?_); (apply gen_len; exact rfl; exact rfl; assumption))) <;> (conv => whnf)))
    refine ps_val (v' := Sta.v { x with jobs := ⟨A2, c2, x.jobs.l.map restB⟩ }) ?_ ⟨⟨A2, c2, x.jobs.l.map restB⟩, rfl, rfl, hp.made1 (j := 0) rfl⟩
    unfold Sta.v Sl.v
    rw [hll]
    rfl
end Go.Proofs.YteabebmlclgakaaGreat
