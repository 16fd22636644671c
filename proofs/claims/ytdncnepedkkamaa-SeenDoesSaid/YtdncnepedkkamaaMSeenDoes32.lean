/- MSeenDoes32: Seen6, SeenQ, SeenR. -/
import Derived.Test.YtdncnepedkkamaaMSeenDoes29
import Derived.Test.YtdncnepedkkamaaMSeenDoes31
import Derived.Shelf.SlGeneric
import Derived.Test.YtdncnepedkkamaaMSeenDoes27
import Derived.Test.YtdncnepedkkamaaMSeenDoessRef27
/- Seen6: an index of package seen: the ids of a hint, sorted by their first places. -/
namespace Go.Proofs.Ytdncnepedkkamaa
set_option linter.unusedSimpArgs false
set_option linter.unusedVariables false
open Go.RowKit Go.Shelf Go.Lib
set_option maxRecDepth 100000
set_option maxHeartbeats 2000000
def srtH_ren : Go.Shelf.Ren := ⟨fun | 6 => 81 | 15 => 100 | 14 => 99 | 28 => 115 | 29 => 116 | 20 => 107 | 21 => 108 | 22 => 109 | 23 => 110 | 24 => 111 | 25 => 112 | 26 => 113 | 27 => 114 | 46 => 128 | 47 => 129 | 48 => 130 | 49 => 131 | 50 => 132 | 57 => 137 | n => n, fun | 22 => 63 | 24 => 62 | 25 => 129 | 3 => 3 | 39 => 146 | 0 => 0 | 53 => 27 | 55 => 108 | 4 => 4 | 46 => 158 | 45 => 157 | 50 => 162 | 5 => 5 | 9 => 9 | 66 => 174 | 70 => 178 | 76 => 182 | 77 => 183 | n => n, fun | n => n⟩
theorem srtH : Go.Proofs.SlLaysF0.n6 Try.prog srtH_ren := {
  mixed := by kernel_rfl
  f6 := ⟨Try.f81.name, by decide, Try.func81.trans (congrArg some (by kernel_rfl))⟩
  f14 := ⟨Try.f99.name, by decide, Try.func99.trans (congrArg some (by kernel_rfl))⟩
  f15 := Try.func100.trans (congrArg some (by kernel_rfl))
  f20 := ⟨Try.f107.name, by decide, Try.func107.trans (congrArg some (by kernel_rfl))⟩
  f21 := ⟨Try.f108.name, by decide, Try.func108.trans (congrArg some (by kernel_rfl))⟩
  f22 := ⟨Try.f109.name, by decide, Try.func109.trans (congrArg some (by kernel_rfl))⟩
  f23 := ⟨Try.f110.name, by decide, Try.func110.trans (congrArg some (by kernel_rfl))⟩
  f24 := ⟨Try.f111.name, by decide, Try.func111.trans (congrArg some (by kernel_rfl))⟩
  f25 := ⟨Try.f112.name, by decide, Try.func112.trans (congrArg some (by kernel_rfl))⟩
  f26 := ⟨Try.f113.name, by decide, Try.func113.trans (congrArg some (by kernel_rfl))⟩
  f27 := ⟨Try.f114.name, by decide, Try.func114.trans (congrArg some (by kernel_rfl))⟩
  f28 := Try.func115.trans (congrArg some (by kernel_rfl))
  f29 := Try.func116.trans (congrArg some (by kernel_rfl))
  f46 := ⟨Try.f128.name, by decide, Try.func128.trans (congrArg some (by kernel_rfl))⟩
  f47 := Try.func129.trans (congrArg some (by kernel_rfl))
  f48 := Try.func130.trans (congrArg some (by kernel_rfl))
  f49 := ⟨Try.f131.name, by decide, Try.func131.trans (congrArg some (by kernel_rfl))⟩
  f50 := ⟨Try.f132.name, by decide, Try.func132.trans (congrArg some (by kernel_rfl))⟩
  f57 := ⟨Try.f137.name, by decide, Try.func137.trans (congrArg some (by kernel_rfl))⟩
  t0 := Try.underlying0
  a0 := Try.isAgg0
  z0 := Try.sizeOf0
  v0 := Try.zeroValue0
  t3 := Try.underlying3
  a3 := Try.isAgg3
  z3 := Try.sizeOf3
  v3 := Try.zeroValue3
  t4 := Try.underlying4
  a4 := Try.isAgg4
  z4 := Try.sizeOf4
  v4 := Try.zeroValue4
  t5 := Try.underlying5
  a5 := Try.isAgg5
  z5 := Try.sizeOf5
  v5 := Try.zeroValue5
  t9 := Try.underlying9
  a9 := Try.isAgg9
  z9 := Try.sizeOf9
  v9 := Try.zeroValue9
  t22 := Try.underlying63
  a22 := Try.isAgg63
  z22 := Try.sizeOf63
  v22 := Try.zeroValue63
  t25 := Try.underlying129
  a25 := Try.isAgg129
  z25 := Try.sizeOf129
  v25 := Try.zeroValue129
  t39 := Try.underlying146
  a39 := Try.isAgg146
  z39 := Try.sizeOf146
  v39 := Try.zeroValue146
  t45 := Try.underlying157
  a45 := Try.isAgg157
  z45 := Try.sizeOf157
  v45 := Try.zeroValue157
  t46 := Try.underlying158
  a46 := Try.isAgg158
  z46 := Try.sizeOf158
  v46 := Try.zeroValue158
  t50 := Try.underlying162
  a50 := Try.isAgg162
  z50 := Try.sizeOf162
  v50 := Try.zeroValue162
  t53 := Try.underlying27
  a53 := Try.isAgg27
  z53 := Try.sizeOf27
  v53 := Try.zeroValue27
  t55 := Try.underlying108
  a55 := Try.isAgg108
  z55 := Try.sizeOf108
  v55 := Try.zeroValue108
  t66 := Try.underlying174
  a66 := Try.isAgg174
  z66 := Try.sizeOf174
  v66 := Try.zeroValue174
  t70 := Try.underlying178
  a70 := Try.isAgg178
  z70 := Try.sizeOf178
  v70 := Try.zeroValue178
  t76 := Try.underlying182
  a76 := Try.isAgg182
  z76 := Try.sizeOf182
  v76 := Try.zeroValue182
  t77 := Try.underlying183
  a77 := Try.isAgg183
  z77 := Try.sizeOf183
  v77 := Try.zeroValue183 }
theorem res_extS {r r' : Res} (hd : r.dom = r'.dom) (ho : r.ok = r'.ok) : r = r' := by
  obtain ⟨d, o, _, _⟩ := r
  obtain ⟨d', o', _, _⟩ := r'
  dsimp only at hd ho
  subst hd ho
  rfl
/-- a row of some values, as a row of all -/
theorem rowR_sub {α : Type} {p : α → Prop} {e : TypeId} {sz : Nat} {enc : α → List Value} (s : Sl {y : α // p y}) : rowR e sz (fun z : {y : α // p y} => enc z.1) s = rowR e sz enc ⟨s.A, s.c, s.l.map (·.1)⟩ := by
  have hv : s.v = Sl.v (α := α) ⟨s.A, s.c, s.l.map (·.1)⟩ := by simp [Sl.v]
  have hf : s.l.flatMap (fun z => enc z.1) = (s.l.map (·.1)).flatMap enc := by rw [List.flatMap_map]
  refine res_extS (funext fun b => propext ?_) (funext fun w => propext ?_)
  · rw [rowR_dom, rowR_dom, hv]
  · rw [rowR_ok, rowR_ok, hv, hf]
    simp
def fstP (X : Snx) (y : Id) : Plc := match (idx X.lw y).l with | [] => ⟨0, 0⟩ | p :: ps => minP p ps
theorem plcLt_irrefl (x : Plc) : ¬ plcLt x x := by unfold plcLt; omega
theorem plcLt_trans {x y z : Plc} (h1 : plcLt x y) (h2 : plcLt y z) : plcLt x z := by unfold plcLt at *; omega
theorem plcLt_ntrans {x y z : Plc} (h1 : ¬ plcLt x y) (h2 : ¬ plcLt y z) : ¬ plcLt x z := by unfold plcLt at *; omega
theorem hinted1_any {w0 : World} {b b2 : Nat} {X : Snx} (h : SnAt w0 b X) (hc : w0.cell? ⟨b2, 0, none⟩ = some (ptr b)) {x y : Id} (hx : (idx X.lw x).l ≠ []) (hy : (idx X.lw y).l ≠ []) (hnx : ∀ x, (idx X.lw x).l.length ≤ 1000000) : Calls Try.prog 82 #[x.v, y.v, ptr b2] w0 fun e w' => e = .returned (i64 (aheadV (fstP X x) (fstP X y))) ∧ Chg N0 w0 w' := by
  have hp := Hp.start (S := N0) w0
  have hfs : ∀ (z : Id), (idx X.lw z).l ≠ [] → ∀ {w : World}, Chg N0 w0 w → Calls Try.prog 78 #[ptr b, z.v] w fun e w' => e = .returned (fstP X z).v ∧ Chg N0 w w' := fun z hz w hc => by
    cases hl : (idx X.lw z).l with
    | nil => exact (hz hl).elim
    | cons p ps =>
      have h1 := sfirst_any (h.keep0 hc) z (hnx z) hl
      have h2 : fstP X z = minP p ps := by unfold fstP; rw [hl]
      rw [h2]
      exact h1
  have f1 := fun {w : World} => hfs x hx (w := w)
  have f2 := fun {w : World} => hfs y hy (w := w)
  obtain ⟨P, hP⟩ : ∃ P, fstP X x = P := ⟨_, rfl⟩
  obtain ⟨Q, hQ⟩ : ∃ Q, fstP X y = Q := ⟨_, rfl⟩
  rw [hP] at f1 ⊢
  rw [hQ] at f2 ⊢
  have ha := fun w => ahead_any w P Q
  obtain ⟨v, hv⟩ : ∃ v, aheadV P Q = v := ⟨_, rfl⟩
  rw [hv] at ha ⊢
  refine calls_x (args := [_, _, _]) tabOk Try.func82 Try.ntmps82 Try.results82 rfl (Nat.le_of_ble_eq_true rfl) ?_
  ((conv => whnf); repeat' ((first | ((with_reducible refine br_id ?_); first | (with_reducible (first | refine br_t ?_ | refine br_f ?_ | refine br_not ?_)) | ((with_reducible (first | refine br_dec (fun hx => ?_) (fun hx => ?_) | refine br_eq (fun hx => ?_) (fun hx => ?_) | refine br_ne (fun hx => ?_) (fun hx => ?_) | refine br_s (fun hx => ?_) (fun hx => ?_))) <;> (try (exfalso; first | omega | exact absurd hx (by assumption) | exact absurd (by assumption) hx)))) | ((with_reducible refine ar_id ?_); first | (refine ar_i64 (by omega) ?_) | (refine ar_u32 (by omega) ?_) | (refine ar_u64 (by omega) ?_) | (refine ar_u8 (by omega) ?_)) | ((with_reducible refine cn_id ?_); first | (refine cn rfl ?_) | (refine cn (by assumption) ?_) | (refine cn (by omega) ?_) | (refine cn (Chg.refl _ _) ?_)) | ((with_reducible refine ld_id ?_); first | (apply ld_hs hp; (focus ((repeat (first | exact Has.here | apply Has.there)); done)); exact rfl) | (refine ld_of (by assumption) ?_)) | ((with_reducible refine ldn_id ?_); first | (apply lda_hs hp; (focus ((repeat (first | exact Has.here | apply Has.there)); done)); exact rfl) | (apply ldn_hs hp; (focus ((repeat (first | exact Has.here | apply Has.there)); done)); exact rfl; exact rfl)) | ((with_reducible refine al_id ?_); first | (refine al_cel hp ?_; clear hp; intro bb w hp)) | ((with_reducible refine st_id ?_); first | (apply sta_hs hp; (focus ((repeat (first | exact Has.here | apply Has.there)); done)); exact rfl; exact rfl; clear hp; intro w hp; (try dsimp only [List.set] at hp)) | (apply st_hs hp; (focus ((repeat (first | exact Has.here | apply Has.there)); done)); exact rfl; exact rfl; clear hp; intro w hp; (try dsimp only [List.set] at hp))) | ((with_reducible refine gen_id ?_); first | (apply gen_build; exact rfl; exact rfl) | (apply gen_len; exact rfl; exact rfl; assumption) | (apply gen_min; exact rfl; exact rfl; exact rfl) | (apply gen_max; exact rfl; exact rfl; exact rfl) | (apply gen_ix; exact rfl; exact rfl; exact rfl; exact rfl; omega) | (apply gen_ixa; exact rfl; exact rfl; exact rfl; exact rfl; omega)) | ((with_reducible refine fk_id ?_); first | (refine fk_mk ?_ ?_)) | ((with_reducible refine rd_id ?_); first | (apply rd_len; exact rfl; exact rfl; assumption) | (apply rd_ix; exact rfl; exact rfl; exact rfl; exact rfl; omega))) <;> (conv => whnf)))
  refine dr_autos [] 1000 tabOk (by kernel_rfl) (by decide +kernel) ?_
  replace hp := hp.drew
  ((conv => whnf); repeat' ((first | ((with_reducible refine br_id ?_); first | (with_reducible (first | refine br_t ?_ | refine br_f ?_ | refine br_not ?_)) | ((with_reducible (first | refine br_dec (fun hx => ?_) (fun hx => ?_) | refine br_eq (fun hx => ?_) (fun hx => ?_) | refine br_ne (fun hx => ?_) (fun hx => ?_) | refine br_s (fun hx => ?_) (fun hx => ?_))) <;> (try (exfalso; first | omega | exact absurd hx (by assumption) | exact absurd (by assumption) hx)))) | ((with_reducible refine ar_id ?_); first | (refine ar_i64 (by omega) ?_) | (refine ar_u32 (by omega) ?_) | (refine ar_u64 (by omega) ?_) | (refine ar_u8 (by omega) ?_)) | ((with_reducible refine cn_id ?_); first | (refine cn rfl ?_) | (refine cn (by assumption) ?_) | (refine cn (by omega) ?_) | (refine cn (Chg.refl _ _) ?_)) | ((with_reducible refine ld_id ?_); first | ((refine ld_of (hp.chg.cell0 hc) ?_)) | (apply ld_hs hp; (focus ((repeat (first | exact Has.here | apply Has.there)); done)); exact rfl) | (refine ld_of (by assumption) ?_)) | ((with_reducible refine ldn_id ?_); first | (apply lda_hs hp; (focus ((repeat (first | exact Has.here | apply Has.there)); done)); exact rfl) | (apply ldn_hs hp; (focus ((repeat (first | exact Has.here | apply Has.there)); done)); exact rfl; exact rfl)) | ((with_reducible refine al_id ?_); first | (refine al_cel hp ?_; clear hp; intro bb w hp)) | ((with_reducible refine st_id ?_); first | (apply sta_hs hp; (focus ((repeat (first | exact Has.here | apply Has.there)); done)); exact rfl; exact rfl; clear hp; intro w hp; (try dsimp only [List.set] at hp)) | (apply st_hs hp; (focus ((repeat (first | exact Has.here | apply Has.there)); done)); exact rfl; exact rfl; clear hp; intro w hp; (try dsimp only [List.set] at hp))) | ((with_reducible refine gen_id ?_); first | (apply gen_build; exact rfl; exact rfl) | (apply gen_len; exact rfl; exact rfl; assumption) | (apply gen_min; exact rfl; exact rfl; exact rfl) | (apply gen_max; exact rfl; exact rfl; exact rfl) | (apply gen_ix; exact rfl; exact rfl; exact rfl; exact rfl; omega) | (apply gen_ixa; exact rfl; exact rfl; exact rfl; exact rfl; omega)) | ((with_reducible refine dr_id ?_); first | (refine dr_auto tabOk (by kernel_rfl) (by decide +kernel) ?_; (try replace hp := hp.drew)) | (refine dr_autog tabOk (by kernel_rfl) (by decide +kernel) ?_; (try replace hp := hp.drew)) | (refine dr_autot tabOk (by kernel_rfl) (by decide +kernel) ?_; (try replace hp := hp.drew))) | ((with_reducible refine fk_id ?_); first | (refine fk_mk ?_ ?_)) | ((with_reducible refine cl_id ?_); first | ((refine cl_eq ((f1 hp.chg)) rfl rfl ?_; rintro e w ⟨rfl, hcc⟩; replace hp := hp.call0 hcc; refine ⟨_, rfl, ?_⟩)) | ((refine cl_eq ((f2 hp.chg)) rfl rfl ?_; rintro e w ⟨rfl, hcc⟩; replace hp := hp.call0 hcc; refine ⟨_, rfl, ?_⟩)) | ((refine cl_eq ((ha _)) rfl rfl ?_; rintro e w ⟨rfl, hcc⟩; replace hp := hp.call0 hcc; refine ⟨_, rfl, ?_⟩))) | ((with_reducible refine rd_id ?_); first | (apply rd_len; exact rfl; exact rfl; assumption) | (apply rd_ix; exact rfl; exact rfl; exact rfl; exact rfl; omega))) <;> (conv => whnf)))
  all_goals exact ps_val (v' := i64 v) rfl ⟨rfl, hp.chg⟩
theorem swoP {S : List Id} (X : Snx) : Sort.SWO (ltOf fun x y : {y : Id // y ∈ S} => aheadV (fstP X x.1) (fstP X y.1)) where
  irrefl x := decide_eq_false fun h => plcLt_irrefl _ ((aheadV_neg _ _).1 h)
  trans x y z h1 h2 := decide_eq_true ((aheadV_neg _ _).2 (plcLt_trans ((aheadV_neg _ _).1 (of_decide_eq_true h1)) ((aheadV_neg _ _).1 (of_decide_eq_true h2))))
  ntrans x y z h1 h2 := decide_eq_false fun h => plcLt_ntrans (fun h3 => of_decide_eq_false h1 ((aheadV_neg _ _).2 h3)) (fun h3 => of_decide_eq_false h2 ((aheadV_neg _ _).2 h3)) ((aheadV_neg _ _).1 h)
theorem shinted_any {w0 : World} {b : Nat} {X : Snx} (h : SnAt w0 b X) (k : Hint) (hne : (idx X.lh k).l ≠ []) (hpl : ∀ y ∈ (idx X.lh k).l, (idx X.lw y).l ≠ []) (hnx : ∀ x, (idx X.lw x).l.length ≤ 1000000) (hnk : (idx X.lh k).l.length ≤ 1000000) : Calls Try.prog 51 #[ptr b, k.v] w0 fun e w' => ∃ r : Sl Id, r.l.Perm (idx X.lh k).l ∧ r.l.Pairwise (fun x y => ¬ plcLt (fstP X y) (fstP X x)) ∧ e = .returned r.v ∧ Made (rowR 62 32 Id.c r) w0 w' := by
  have hp := Hp.start (S := N0) w0
  have hat := fun {w : World} (hc : Chg N0 w0 w) => iatHI (h.keep0 hc).hi k hnk
  obtain ⟨S, hS⟩ : ∃ S, (idx X.lh k).l = S := ⟨_, rfl⟩
  rw [hS] at hat hne hpl hnk ⊢
  obtain ⟨z0, hz0⟩ : ∃ z, z ∈ S := List.exists_mem_of_ne_nil S hne
  haveI : Inhabited {y : Id // y ∈ S} := ⟨⟨z0, hz0⟩⟩
  refine calls_x (args := [_, _]) tabOk Try.func51 Try.ntmps51 Try.results51 rfl (Nat.le_of_ble_eq_true rfl) ?_
  ((conv => whnf); repeat' ((first | ((with_reducible refine br_id ?_); first | (with_reducible (first | refine br_t ?_ | refine br_f ?_ | refine br_not ?_)) | ((with_reducible (first | refine br_dec (fun hx => ?_) (fun hx => ?_) | refine br_eq (fun hx => ?_) (fun hx => ?_) | refine br_ne (fun hx => ?_) (fun hx => ?_) | refine br_s (fun hx => ?_) (fun hx => ?_))) <;> (try (exfalso; first | omega | exact absurd hx (by assumption) | exact absurd (by assumption) hx)))) | ((with_reducible refine ar_id ?_); first | (refine ar_i64 (by omega) ?_) | (refine ar_u32 (by omega) ?_) | (refine ar_u64 (by omega) ?_) | (refine ar_u8 (by omega) ?_)) | ((with_reducible refine cn_id ?_); first | (refine cn rfl ?_) | (refine cn (by assumption) ?_) | (refine cn (by omega) ?_) | (refine cn (Chg.refl _ _) ?_)) | ((with_reducible refine ld_id ?_); first | (apply ld_hs hp; (focus ((repeat (first | exact Has.here | apply Has.there)); done)); exact rfl) | (refine ld_of (by assumption) ?_)) | ((with_reducible refine ldn_id ?_); first | (apply lda_hs hp; (focus ((repeat (first | exact Has.here | apply Has.there)); done)); exact rfl) | (apply ldn_hs hp; (focus ((repeat (first | exact Has.here | apply Has.there)); done)); exact rfl; exact rfl)) | ((with_reducible refine al_id ?_); first | (refine al_cel hp ?_; clear hp; intro bb w hp)) | ((with_reducible refine st_id ?_); first | (apply sta_hs hp; (focus ((repeat (first | exact Has.here | apply Has.there)); done)); exact rfl; exact rfl; clear hp; intro w hp; (try dsimp only [List.set] at hp)) | (apply st_hs hp; (focus ((repeat (first | exact Has.here | apply Has.there)); done)); exact rfl; exact rfl; clear hp; intro w hp; (try dsimp only [List.set] at hp))) | ((with_reducible refine gen_id ?_); first | (apply gen_build; exact rfl; exact rfl) | (apply gen_len; exact rfl; exact rfl; assumption) | (apply gen_min; exact rfl; exact rfl; exact rfl) | (apply gen_max; exact rfl; exact rfl; exact rfl) | (apply gen_ix; exact rfl; exact rfl; exact rfl; exact rfl; omega) | (apply gen_ixa; exact rfl; exact rfl; exact rfl; exact rfl; omega)) | ((with_reducible refine fk_id ?_); first | (refine fk_mk ?_ ?_)) | ((with_reducible refine cl_id ?_); first | ((refine cl_eq ((snone_any (h.keep0 hp.chg))) rfl rfl ?_; rintro e w ⟨rfl, hcc⟩; replace hp := hp.call0 hcc; refine ⟨_, rfl, ?_⟩))) | ((with_reducible refine rd_id ?_); first | (apply rd_len; exact rfl; exact rfl; assumption) | (apply rd_ix; exact rfl; exact rfl; exact rfl; exact rfl; omega))) <;> (conv => whnf)))
  refine dr_autos [] 1000 tabOk (by kernel_rfl) (by decide +kernel) ?_
  replace hp := hp.drew
  ((conv => whnf); repeat' ((first | ((with_reducible refine br_id ?_); first | (with_reducible (first | refine br_t ?_ | refine br_f ?_ | refine br_not ?_)) | ((with_reducible (first | refine br_dec (fun hx => ?_) (fun hx => ?_) | refine br_eq (fun hx => ?_) (fun hx => ?_) | refine br_ne (fun hx => ?_) (fun hx => ?_) | refine br_s (fun hx => ?_) (fun hx => ?_))) <;> (try (exfalso; first | omega | exact absurd hx (by assumption) | exact absurd (by assumption) hx)))) | ((with_reducible refine ar_id ?_); first | (refine ar_i64 (by omega) ?_) | (refine ar_u32 (by omega) ?_) | (refine ar_u64 (by omega) ?_) | (refine ar_u8 (by omega) ?_)) | ((with_reducible refine cn_id ?_); first | (refine cn rfl ?_) | (refine cn (by assumption) ?_) | (refine cn (by omega) ?_) | (refine cn (Chg.refl _ _) ?_)) | ((with_reducible refine ld_id ?_); first | ((refine ld_of ((h.keep0 hp.chg).cell rfl) ?_)) | (apply ld_hs hp; (focus ((repeat (first | exact Has.here | apply Has.there)); done)); exact rfl) | (refine ld_of (by assumption) ?_)) | ((with_reducible refine ldn_id ?_); first | (apply lda_hs hp; (focus ((repeat (first | exact Has.here | apply Has.there)); done)); exact rfl) | (apply ldn_hs hp; (focus ((repeat (first | exact Has.here | apply Has.there)); done)); exact rfl; exact rfl)) | ((with_reducible refine al_id ?_); first | (refine al_cel hp ?_; clear hp; intro bb w hp)) | ((with_reducible refine st_id ?_); first | (apply sta_hs hp; (focus ((repeat (first | exact Has.here | apply Has.there)); done)); exact rfl; exact rfl; clear hp; intro w hp; (try dsimp only [List.set] at hp)) | (apply st_hs hp; (focus ((repeat (first | exact Has.here | apply Has.there)); done)); exact rfl; exact rfl; clear hp; intro w hp; (try dsimp only [List.set] at hp))) | ((with_reducible refine gen_id ?_); first | ((refine gen_mkf rfl rfl ?_)) | (apply gen_build; exact rfl; exact rfl) | (apply gen_len; exact rfl; exact rfl; assumption) | (apply gen_min; exact rfl; exact rfl; exact rfl) | (apply gen_max; exact rfl; exact rfl; exact rfl) | (apply gen_ix; exact rfl; exact rfl; exact rfl; exact rfl; omega) | (apply gen_ixa; exact rfl; exact rfl; exact rfl; exact rfl; omega)) | ((with_reducible refine fk_id ?_); first | (refine fk_mk ?_ ?_)) | ((with_reducible refine cl_id ?_); first | ((refine cl_eq (hat hp.chg) rfl rfl ?_; rintro e w ⟨r0, hr0, rfl, hmd⟩; replace hp := hp.add hmd; replace hmd := hmd.chg; refine ⟨_, rfl, ?_⟩))) | ((with_reducible refine rd_id ?_); first | (apply rd_len; exact rfl; exact rfl; assumption) | (apply rd_ix; exact rfl; exact rfl; exact rfl; exact rfl; omega))) <;> (conv => whnf)))
  obtain ⟨b3, hb3⟩ : ∃ x : Nat, x = bb := ⟨_, rfl⟩
  subst hb3
  obtain ⟨b2, hb2⟩ : ∃ x : Nat, x = bb := ⟨_, rfl⟩
  subst hb2
  obtain ⟨s, hs⟩ : ∃ s : Sl {y : Id // y ∈ S}, s = ⟨r0.A, r0.c, S.attach⟩ := ⟨_, rfl⟩
  have hatt : S.attach.map (·.1) = S := List.attach_map_subtype_val S
  have hrow : rowR 62 32 Id.c r0 = rowR 62 32 (fun z : {y : Id // y ∈ S} => Id.c z.1) s := by
    rw [rowR_sub, hs]
    dsimp only
    rw [hatt, ← hr0]
  have hsl : s.l.length = r0.l.length := by rw [hs, hr0]; simp
  have hsv : s.v = .slice r0.A r0.l.length r0.c := by rw [Sl.v, hsl, hs]
  have hok := hp.get (j := 0) rfl
  rw [hrow] at hok
  have hdom : ∀ x, (rowR 62 32 (fun z : {y : Id // y ∈ S} => Id.c z.1) s).dom x → w0.heap.size ≤ x := fun x hx => by
    rw [← hrow] at hx
    exact (hp.own _ (List.mem_cons_self ..) x hx).resolve_left fun hh => hh
  have hc2 := cel_ok.1 (hp.get (j := 2) rfl)
  have hn2 : ¬ (rowR 62 32 (fun z : {y : Id // y ∈ S} => Id.c z.1) s).dom b2 := fun hh => by
    rw [← hrow] at hh
    exact (List.pairwise_cons.1 hp.sep).1 (cel b2 55 #[ptr b]) (by simp) b2 hh (cel_dom.2 rfl)
  have hchg := hp.chg
  have hcmp : ∀ (x y : {y : Id // y ∈ S}) (W : World), Chg (rowR 62 32 (fun z : {y : Id // y ∈ S} => Id.c z.1) s).dom w W → Calls Try.prog 82 (#[.agg (Id.c x.1).toArray, .agg (Id.c y.1).toArray] ++ #[ptr b2]) W fun e w' => e = .returned (.int .i64 (aheadV (fstP X x.1) (fstP X y.1))) ∧ Chg N0 W w' := fun x y W hW => by
    have h1 : Chg N0 w0 W := hchg.trans hW fun q hq hd => (Nat.not_le.2 hq (hdom q hd)).elim
    exact hinted1_any (h.keep0 h1) (cell_of_heap (hW.heap hc2 hn2) rfl) (hpl _ x.2) (hpl _ y.2) hnx
  refine cl_eq (sortf_chg (enc := fun z : {y : Id // y ∈ S} => Id.c z.1) srtH Try.isAgg62 Try.sizeOf62 (fun _ => rfl) (fun x => idL_one x.1 (List.mem_singleton.2 rfl)) (fun x y => aheadV (fstP X x.1) (fstP X y.1)) (swoP X) 82 #[ptr b2] (enters_of Try.func82 (by kernel_rfl) rfl) hok (by rw [hsl, hr0]; omega) hcmp) rfl (by rw [hsv]; rfl) ?_
  rintro e w ⟨rfl, l', hl', hsrt, hmt⟩
  rw [← hrow, rowR_sub] at hmt
  replace hp := hp.via (j := 0) rfl hmt
  clear hmt
  dsimp only [List.set] at hp
  refine ⟨_, rfl, ?_⟩
  obtain ⟨r, hr⟩ : ∃ r : Sl Id, r = ⟨s.A, s.c, l'.map (·.1)⟩ := ⟨_, rfl⟩
  rw [← hr] at hp
  have hrv : r.v = .slice r0.A r0.l.length r0.c := by
    rw [hr, Sl.v]
    dsimp only
    rw [List.length_map, hl'.length_eq, hsl, hs]
  have hpm : r.l.Perm S := by
    rw [hr]
    have h1 := hl'.map (·.1)
    rw [hs, hatt] at h1
    exact h1
  have hpw : r.l.Pairwise fun x y => ¬ plcLt (fstP X y) (fstP X x) := by
    rw [hr]
    exact List.pairwise_map.2 (hsrt.imp fun hh h9 => of_decide_eq_false hh ((aheadV_neg _ _).2 h9))
  ((conv => whnf); repeat' ((first | ((with_reducible refine br_id ?_); first | (with_reducible (first | refine br_t ?_ | refine br_f ?_ | refine br_not ?_)) | ((with_reducible (first | refine br_dec (fun hx => ?_) (fun hx => ?_) | refine br_eq (fun hx => ?_) (fun hx => ?_) | refine br_ne (fun hx => ?_) (fun hx => ?_) | refine br_s (fun hx => ?_) (fun hx => ?_))) <;> (try (exfalso; first | omega | exact absurd hx (by assumption) | exact absurd (by assumption) hx)))) | ((with_reducible refine ar_id ?_); first | (refine ar_i64 (by omega) ?_) | (refine ar_u32 (by omega) ?_) | (refine ar_u64 (by omega) ?_) | (refine ar_u8 (by omega) ?_)) | ((with_reducible refine cn_id ?_); first | (refine cn rfl ?_) | (refine cn (by assumption) ?_) | (refine cn (by omega) ?_) | (refine cn (Chg.refl _ _) ?_)) | ((with_reducible refine ld_id ?_); first | (apply ld_hs hp; (focus ((repeat (first | exact Has.here | apply Has.there)); done)); exact rfl) | (refine ld_of (by assumption) ?_)) | ((with_reducible refine ldn_id ?_); first | (apply lda_hs hp; (focus ((repeat (first | exact Has.here | apply Has.there)); done)); exact rfl) | (apply ldn_hs hp; (focus ((repeat (first | exact Has.here | apply Has.there)); done)); exact rfl; exact rfl)) | ((with_reducible refine al_id ?_); first | (refine al_cel hp ?_; clear hp; intro bb w hp)) | ((with_reducible refine st_id ?_); first | (apply sta_hs hp; (focus ((repeat (first | exact Has.here | apply Has.there)); done)); exact rfl; exact rfl; clear hp; intro w hp; (try dsimp only [List.set] at hp)) | (apply st_hs hp; (focus ((repeat (first | exact Has.here | apply Has.there)); done)); exact rfl; exact rfl; clear hp; intro w hp; (try dsimp only [List.set] at hp))) | ((with_reducible refine gen_id ?_); first | (apply gen_build; exact rfl; exact rfl) | (apply gen_len; exact rfl; exact rfl; assumption) | (apply gen_min; exact rfl; exact rfl; exact rfl) | (apply gen_max; exact rfl; exact rfl; exact rfl) | (apply gen_ix; exact rfl; exact rfl; exact rfl; exact rfl; omega) | (apply gen_ixa; exact rfl; exact rfl; exact rfl; exact rfl; omega)) | ((with_reducible refine dr_id ?_); first | (refine dr_auto tabOk (by kernel_rfl) (by decide +kernel) ?_; (try replace hp := hp.drew)) | (refine dr_autog tabOk (by kernel_rfl) (by decide +kernel) ?_; (try replace hp := hp.drew)) | (refine dr_autot tabOk (by kernel_rfl) (by decide +kernel) ?_; (try replace hp := hp.drew))) | ((with_reducible refine fk_id ?_); first | (refine fk_mk ?_ ?_)) | ((with_reducible refine rd_id ?_); first | (apply rd_len; exact rfl; exact rfl; assumption) | (apply rd_ix; exact rfl; exact rfl; exact rfl; exact rfl; omega))) <;> (conv => whnf)))
  exact ps_val (v' := .slice r0.A r0.l.length r0.c) rfl ⟨r, hpm, hpw, by rw [hrv], hp.made1 (j := 0) rfl⟩
end Go.Proofs.Ytdncnepedkkamaa
/- SeenQ: the order of the ids of a hint. No program in sight. -/
namespace Go.Proofs.Ytdncnepedkkamaa
set_option linter.unusedSimpArgs false
set_option linter.unusedVariables false
open Go.RowKit
set_option maxRecDepth 100000
set_option maxHeartbeats 2000000
/-- the block and the place where an id stands first -/
def fstIJ : List (List Id) → Id → Option (Nat × Nat)
  | [], _ => none
  | t :: L, x => if x ∈ t then some (0, t.idxOf x) else (fstIJ L x).map fun p => (p.1 + 1, p.2)
theorem fstIJ_mem {x : Id} : ∀ {L : List (List Id)}, (∃ t ∈ L, x ∈ t) → ∃ p, fstIJ L x = some p
  | [], h => by obtain ⟨t, ht, _⟩ := h; cases ht
  | t :: L, h => by
    show ∃ p, (if x ∈ t then some (0, t.idxOf x) else (fstIJ L x).map fun p => (p.1 + 1, p.2)) = some p
    by_cases hx : x ∈ t
    · exact ⟨_, if_pos hx⟩
    · rw [if_neg hx]
      obtain ⟨u, hu, hxu⟩ := h
      rcases List.mem_cons.1 hu with rfl | hu
      · exact (hx hxu).elim
      · obtain ⟨p, hp⟩ := fstIJ_mem ⟨u, hu, hxu⟩
        exact ⟨_, by rw [hp]; rfl⟩
theorem fstIJ_at {x : Id} : ∀ {L : List (List Id)} {i j : Nat}, fstIJ L x = some (i, j) → ∃ t, L[i]? = some t ∧ t[j]? = some x
  | [], i, j, h => by cases h
  | t :: L, i, j, h => by
    have h' : (if x ∈ t then some (0, t.idxOf x) else (fstIJ L x).map fun p => (p.1 + 1, p.2)) = some (i, j) := h
    by_cases hx : x ∈ t
    · rw [if_pos hx] at h'
      injection h' with h'
      injection h' with h1 h2
      subst h1 h2
      exact ⟨t, rfl, by rw [List.getElem?_eq_getElem (List.idxOf_lt_length_of_mem hx)]; simp⟩
    · rw [if_neg hx] at h'
      cases hp : fstIJ L x with
      | none => rw [hp] at h'; cases h'
      | some p =>
        rw [hp] at h'
        simp only [Option.map_some, Option.some.injEq, Prod.mk.injEq] at h'
        obtain ⟨h1, h2⟩ := h'
        obtain ⟨u, h3, h4⟩ := fstIJ_at (L := L) (i := p.1) (j := p.2) hp
        refine ⟨u, ?_, by rw [← h2]; exact h4⟩
        rw [← h1, List.getElem?_cons_succ]
        exact h3
/-- the first of an id's places -/
theorem plcs_head {x : Id} : ∀ {L : List (List Id)} {h i j : Nat}, fstIJ L x = some (i, j) → ∃ ps, plcs h L x = ⟨UInt32.ofNat (h + i), (j : Int)⟩ :: ps
  | [], _, _, _, e => by cases e
  | t :: L, h, i, j, e => by
    have e' : (if x ∈ t then some (0, t.idxOf x) else (fstIJ L x).map fun p => (p.1 + 1, p.2)) = some (i, j) := e
    show ∃ ps, plcT h t x ++ plcs (h + 1) L x = _
    unfold plcT
    by_cases hx : x ∈ t
    · rw [if_pos hx] at e' ⊢
      injection e' with e'
      injection e' with h1 h2
      subst h1 h2
      exact ⟨_, rfl⟩
    · rw [if_neg hx] at e' ⊢
      cases hp : fstIJ L x with
      | none => rw [hp] at e'; cases e'
      | some p =>
        rw [hp] at e'
        simp only [Option.map_some, Option.some.injEq, Prod.mk.injEq] at e'
        obtain ⟨h1, h2⟩ := e'
        obtain ⟨ps, h3⟩ := plcs_head (h := h + 1) (i := p.1) (j := p.2) hp
        refine ⟨ps, ?_⟩
        rw [List.nil_append, h3, ← h1, ← h2]
        congr 3
        omega
theorem fstIJ_inj {L : List (List Id)} {x y : Id} {p : Nat × Nat} (hx : fstIJ L x = some p) (hy : fstIJ L y = some p) : x = y := by
  obtain ⟨t, h1, h2⟩ := fstIJ_at (i := p.1) (j := p.2) hx
  obtain ⟨u, h3, h4⟩ := fstIJ_at (i := p.1) (j := p.2) hy
  rw [h1] at h3
  cases h3
  rw [h2] at h4
  cases h4
  rfl
theorem toNat_of {n : Nat} (h : n < 4294967296) : (UInt32.ofNat n).toNat = n := UInt32.toNat_ofNat_of_lt' (by simpa using h)
theorem plcs_min {x : Id} : ∀ {L : List (List Id)} {h : Nat} {p : Plc} {ps : List Plc}, h + L.length ≤ 4294967296 → plcs h L x = p :: ps → ∀ q ∈ ps, ¬ plcLt q p
  | [], _, _, _, _, e => by cases e
  | t :: L, h, p, ps, htop, e => by
    rw [List.length_cons] at htop
    have e' : plcT h t x ++ plcs (h + 1) L x = p :: ps := e
    unfold plcT at e'
    by_cases hx : x ∈ t
    · rw [if_pos hx] at e'
      simp only [List.cons_append, List.nil_append, List.cons.injEq] at e'
      obtain ⟨h1, h2⟩ := e'
      intro q hq
      rw [← h2] at hq
      obtain ⟨i, hi, hqh⟩ := plcs_h hq
      have h3 : q.h.toNat = h + 1 + i := by rw [hqh]; exact toNat_of (by omega)
      have h4 : p.h.toNat = h := by rw [← h1]; exact toNat_of (by omega)
      unfold plcLt
      omega
    · rw [if_neg hx, List.nil_append] at e'
      exact plcs_min (h := h + 1) (by omega) e'
theorem fstP_at {X : Snx} {L : List (List Id)} {K : Nat} (h : SnI X L K) {x : Id} {i j : Nat} (hf : fstIJ L x = some (i, j)) : fstP X x = ⟨UInt32.ofNat (X.low.toNat + i), (j : Int)⟩ ∧ i < L.length := by
  obtain ⟨ps, h1⟩ := plcs_head (h := X.low.toNat) hf
  obtain ⟨t, h2, _⟩ := fstIJ_at hf
  refine ⟨?_, (List.getElem?_eq_some_iff.1 h2).1⟩
  unfold fstP
  rw [h.w, h1]
  exact minP_sorted (plcs_min h.top h1)
/-- one place before another -/
def ijLt (p q : Nat × Nat) : Prop := p.1 < q.1 ∨ (p.1 = q.1 ∧ p.2 < q.2)
theorem fstP_lt {X : Snx} {L : List (List Id)} {K : Nat} (h : SnI X L K) {x y : Id} {p q : Nat × Nat} (hx : fstIJ L x = some p) (hy : fstIJ L y = some q) : plcLt (fstP X x) (fstP X y) ↔ ijLt p q := by
  obtain ⟨h1, h2⟩ := fstP_at h (i := p.1) (j := p.2) hx
  obtain ⟨h3, h4⟩ := fstP_at h (i := q.1) (j := q.2) hy
  have htop := h.top
  rw [h1, h3]
  unfold plcLt ijLt
  dsimp only
  rw [toNat_of (by omega), toNat_of (by omega)]
  omega
/-- two orders of the same ids by first places are one -/
theorem order_one {X : Snx} {L : List (List Id)} {K : Nat} (h : SnI X L K) {l l' : List Id} (hp : l.Perm l') (hm : ∀ x ∈ l, ∃ t ∈ L, x ∈ t) (h1 : l.Pairwise fun x y => ¬ plcLt (fstP X y) (fstP X x)) (h2 : l'.Pairwise fun x y => ¬ plcLt (fstP X y) (fstP X x)) : l = l' := by
  refine hp.eq_of_pairwise (fun a b ha hb h3 h4 => ?_) h1 h2
  obtain ⟨p, hpa⟩ := fstIJ_mem (hm a ha)
  obtain ⟨q, hqb⟩ := fstIJ_mem (hm b (hp.mem_iff.2 hb))
  rw [fstP_lt h hqb hpa] at h3
  rw [fstP_lt h hpa hqb] at h4
  unfold ijLt at h3 h4
  have : p = q := Prod.ext (by omega) (by omega)
  exact fstIJ_inj hpa (this ▸ hqb)
/-- the document's list of a hint's ids -/
def docS (k : Hint) (out t : List Id) : List Id := out ++ t.filter fun y => decide (hintOf y = k) && !decide (y ∈ out)
def docH (L : List (List Id)) (k : Hint) : List Id := L.foldl (docS k) []
theorem docH_snoc (L : List (List Id)) (t : List Id) (k : Hint) : docH (L ++ [t]) k = docS k (docH L k) t := by
  unfold docH
  rw [List.foldl_append]
  rfl
theorem fstIJ_snoc {t : List Id} {x : Id} : ∀ {L : List (List Id)}, fstIJ (L ++ [t]) x = match fstIJ L x with | some p => some p | none => if x ∈ t then some (L.length, t.idxOf x) else none
  | [] => by
    show (if x ∈ t then some (0, t.idxOf x) else (fstIJ [] x).map fun p => (p.1 + 1, p.2)) = _
    rfl
  | u :: L => by
    show (if x ∈ u then some (0, u.idxOf x) else (fstIJ (L ++ [t]) x).map fun p => (p.1 + 1, p.2)) = match (if x ∈ u then some (0, u.idxOf x) else (fstIJ L x).map fun p => (p.1 + 1, p.2)) with | some p => some p | none => if x ∈ t then some ((u :: L).length, t.idxOf x) else none
    by_cases hx : x ∈ u
    · rw [if_pos hx, if_pos hx]
    · rw [if_neg hx, if_neg hx, fstIJ_snoc (L := L)]
      cases fstIJ L x with
      | some p => rfl
      | none =>
        by_cases ht : x ∈ t
        · simp [ht]
        · simp [ht]
theorem idxOf_pair {t : List Id} (hd : t.Nodup) : t.Pairwise fun a b => t.idxOf a < t.idxOf b := by
  rw [List.pairwise_iff_getElem]
  intro i j hi hj hij
  rw [idxOf_nd hd (List.getElem?_eq_getElem hi), idxOf_nd hd (List.getElem?_eq_getElem hj)]
  exact hij
/-- what the document's list is -/
structure DocI (L : List (List Id)) (k : Hint) (l : List Id) : Prop where
  mem : ∀ y, y ∈ l ↔ hintOf y = k ∧ ∃ t ∈ L, y ∈ t
  nd : l.Nodup
  ord : l.Pairwise fun x y => ∃ p q, fstIJ L x = some p ∧ fstIJ L y = some q ∧ ijLt p q
theorem DocI.step {L : List (List Id)} {k : Hint} {l t : List Id} (h : DocI L k l) (hd : t.Nodup) : DocI (L ++ [t]) k (docS k l t) := by
  refine ⟨fun y => ?_, ?_, ?_⟩
  · unfold docS
    rw [List.mem_append, List.mem_filter]
    have hy := h.mem y
    simp only [Bool.and_eq_true, decide_eq_true_eq, Bool.not_eq_true', decide_eq_false_iff_not, List.mem_append, List.mem_singleton]
    constructor
    · rintro (h0 | ⟨h1, h2, _⟩)
      · obtain ⟨h1, u, h2, h3⟩ := hy.1 h0
        exact ⟨h1, u, .inl h2, h3⟩
      · exact ⟨h2, t, .inr rfl, h1⟩
    · rintro ⟨h1, u, h2 | rfl, h3⟩
      · exact .inl (hy.2 ⟨h1, u, h2, h3⟩)
      · by_cases hm : y ∈ l
        · exact .inl hm
        · exact .inr ⟨h3, h1, hm⟩
  · refine List.nodup_append.2 ⟨h.nd, hd.filter _, fun a ha b hb e => ?_⟩
    subst e
    have := (List.mem_filter.1 hb).2
    simp at this
    exact this.2 ha
  · refine List.pairwise_append.2 ⟨h.ord.imp fun ⟨p, q, h1, h2, h3⟩ => ⟨p, q, by rw [fstIJ_snoc, h1], by rw [fstIJ_snoc, h2], h3⟩, ?_, fun a ha b hb => ?_⟩
    · have hnew : ∀ y, y ∈ t.filter (fun y => decide (hintOf y = k) && !decide (y ∈ l)) → fstIJ (L ++ [t]) y = some (L.length, t.idxOf y) := fun y hy => by
        obtain ⟨h1, h2⟩ := List.mem_filter.1 hy
        simp at h2
        have h3 : fstIJ L y = none := by
          cases hp : fstIJ L y with
          | none => rfl
          | some p =>
            obtain ⟨u, h4, h5⟩ := fstIJ_at (i := p.1) (j := p.2) hp
            exact (h2.2 ((h.mem y).2 ⟨h2.1, u, List.mem_of_getElem? h4, List.mem_of_getElem? h5⟩)).elim
        rw [fstIJ_snoc, h3]
        exact if_pos h1
      have h1 := (idxOf_pair hd).filter fun y => decide (hintOf y = k) && !decide (y ∈ l)
      refine List.Pairwise.imp_of_mem (fun {a b} ha hb hab => ⟨_, _, hnew a ha, hnew b hb, .inr ⟨rfl, hab⟩⟩) h1
    · obtain ⟨p, hp⟩ := fstIJ_mem ((h.mem a).1 ha).2
      obtain ⟨h1, h2⟩ := List.mem_filter.1 hb
      simp at h2
      have h3 : fstIJ L b = none := by
        cases hq : fstIJ L b with
        | none => rfl
        | some q =>
          obtain ⟨u, h4, h5⟩ := fstIJ_at (i := q.1) (j := q.2) hq
          exact (h2.2 ((h.mem b).2 ⟨h2.1, u, List.mem_of_getElem? h4, List.mem_of_getElem? h5⟩)).elim
      obtain ⟨u, h4, _⟩ := fstIJ_at (i := p.1) (j := p.2) hp
      refine ⟨p, (L.length, t.idxOf b), by rw [fstIJ_snoc, hp], by rw [fstIJ_snoc, h3]; exact if_pos h1, .inl (List.getElem?_eq_some_iff.1 h4).1⟩
theorem docI_take {L : List (List Id)} (hd : ∀ t ∈ L, t.Nodup) (k : Hint) : ∀ n, n ≤ L.length → DocI (L.take n) k (docH (L.take n) k)
  | 0, _ => ⟨fun y => by simp [docH], by simp [docH], by simp [docH]⟩
  | n + 1, hn => by
    have ht : L.take (n + 1) = L.take n ++ [L[n]] := by rw [List.take_add_one, List.getElem?_eq_getElem (by omega)]; rfl
    rw [ht, docH_snoc]
    exact (docI_take hd k n (by omega)).step (hd _ (List.getElem_mem _))
/-- what the index tells of a hint is what the document tells -/
theorem hinted_doc {X : Snx} {L : List (List Id)} {K : Nat} (h : SnI X L K) (k : Hint) {l : List Id} (hp : l.Perm (idx X.lh k).l) (ho : l.Pairwise fun x y => ¬ plcLt (fstP X y) (fstP X x)) : l = docH L k := by
  have hd := docI_take (L := L) (fun t ht => (h.nd t ht).1) k L.length (Nat.le_refl _)
  rw [List.take_length] at hd
  have hpm : (idx X.lh k).l.Perm (docH L k) := by
    refine (List.perm_ext_iff_of_nodup (h.hn k) hd.nd).2 fun y => ?_
    rw [h.h, hd.mem]
  refine order_one h (hp.trans hpm) (fun x hx => ((h.h k x).1 (hp.mem_iff.1 hx)).2) ho (hd.ord.imp ?_)
  rintro a b ⟨p, q, h1, h2, h3⟩ h4
  have h5 := (fstP_lt h h2 h1).1 h4
  unfold ijLt at h3 h5
  omega
end Go.Proofs.Ytdncnepedkkamaa
/- SeenR: what an index tells of an id is what the document tells. No program in sight. -/
namespace Go.Proofs.Ytdncnepedkkamaa
set_option linter.unusedSimpArgs false
set_option linter.unusedVariables false
open Go.RowKit
set_option maxRecDepth 100000
set_option maxHeartbeats 2000000
abbrev txs (l : List Blk) : List (List Id) := l.map fun b => b.tx.l
theorem rFirst_ij (x : Id) : ∀ l : List Blk, rFirst l x = (fstIJ (txs l) x).map (·.1)
  | [] => rfl
  | b :: l => by
    show (if x ∈ b.tx.l then some 0 else (rFirst l x).map (· + 1)) = ((if x ∈ b.tx.l then some (0, b.tx.l.idxOf x) else (fstIJ (txs l) x).map fun p => (p.1 + 1, p.2)) : Option (Nat × Nat)).map (·.1)
    by_cases hx : x ∈ b.tx.l
    · rw [if_pos hx, if_pos hx]; rfl
    · rw [if_neg hx, if_neg hx, rFirst_ij x l]
      cases fstIJ (txs l) x <;> rfl
theorem rTimes_plcs (x : Id) : ∀ (l : List Blk) (h : Nat), rTimes l x = (plcs h (txs l) x).length
  | [], _ => rfl
  | b :: l, h => by
    have ih := rTimes_plcs x l (h + 1)
    show _ = (plcT h b.tx.l x ++ plcs (h + 1) (txs l) x).length
    rw [List.length_append, ← ih]
    unfold rTimes plcT
    by_cases hx : x ∈ b.tx.l
    · simp [hx]; omega
    · simp [hx]
/-- what Has answers -/
theorem has_doc {X : Snx} {K : Nat} {l : List Blk} (h : SnI X (txs l) K) (x : Id) : (match (idx X.lw x).l with | [] => Value.tuple #[.int .u32 0, .bool false] | p :: ps => .tuple #[u32 (minP p ps).h, .bool true]) = (match rFirst l x with | none => .tuple #[.int .u32 0, .bool false] | some i => .tuple #[.int .u32 ((X.low.toNat : Int) + (i : Nat)), .bool true]) := by
  rw [rFirst_ij, h.w]
  cases hf : fstIJ (txs l) x with
  | none =>
    have h0 : plcs X.low.toNat (txs l) x = [] := plcs_nil.2 fun u hu hx => by
      obtain ⟨p, hp⟩ := fstIJ_mem ⟨u, hu, hx⟩
      rw [hf] at hp
      cases hp
    rw [h0]
    rfl
  | some p =>
    obtain ⟨ps, h1⟩ := plcs_head (h := X.low.toNat) (i := p.1) (j := p.2) hf
    obtain ⟨h2, h3⟩ := fstP_at h (i := p.1) (j := p.2) hf
    have htop := h.top
    rw [h1]
    show Value.tuple #[u32 (minP _ ps).h, .bool true] = .tuple #[.int .u32 ((X.low.toNat : Int) + (p.1 : Nat)), .bool true]
    rw [minP_sorted (plcs_min h.top h1)]
    show Value.tuple #[.int .u32 ((UInt32.ofNat (X.low.toNat + p.1)).toNat : Int), .bool true] = _
    rw [toNat_of (by omega)]
    congr 3
theorem times_doc {X : Snx} {K : Nat} {l : List Blk} (h : SnI X (txs l) K) (x : Id) : (idx X.lw x).l.length = rTimes l x := by rw [h.w, rTimes_plcs x l X.low.toNat]
end Go.Proofs.Ytdncnepedkkamaa
