/- ImpRests: states at rest: the law. -/
import Derived.Test.YteabebmlclgakaaGreatMImprintRests35
import Derived.Test.YteabebmlclgakaaGreatMImprintRestssStaSame
import Derived.Test.YteabebmlclgakaaGreatMImprintRestssRested
import Derived.Test.YteabebmlclgakaaGreatMImprintRests31
namespace Go.Proofs.YteabebmlclgakaaGreat
set_option linter.unusedSimpArgs false
set_option linter.unusedVariables false
open Go.RowKit
set_option maxRecDepth 100000
set_option maxHeartbeats 4000000
theorem fewP_tk {p q : Payload} (h : p.l.map tk = q.l.map tk) : fewP p = fewP q := by
  have e : ∀ p : Payload, fewP p = ((p.l.map tk).all (fun t => decide (t.2.length ≤ 200)) && decide ((p.l.map tk).length ≤ 20)) := fun p => by
    unfold fewP
    rw [List.all_map, List.length_map]
    rfl
  rw [e, e, h]
theorem few_rest {x r : Sta} (h : FewI x) (hr : r.p = restP x.p) : FewI r := by
  have h1 : r.ses.l = x.ses.l := congrArg StaP.ses hr
  have h2 : r.blobs.l.map Blob.p = x.blobs.l.map Blob.p := congrArg StaP.blobs hr
  have h3 : r.win.l.map Blk.p = x.win.l.map Blk.p := congrArg StaP.win hr
  have h4 : r.jobs.l.map Job.p = (x.jobs.l.map Job.p).map restJ := congrArg StaP.jobs hr
  have l2 := congrArg List.length h2
  have l3 := congrArg List.length h3
  have l4 := congrArg List.length h4
  simp only [List.length_map] at l2 l3 l4
  refine ⟨by rw [h1]; exact h.ses, by rw [l2]; exact h.blobs, by rw [l3]; exact h.win, by rw [l4]; exact h.jobs, fun b hb => ?_, fun b hb => ?_, fun j hj => ?_⟩
  · obtain ⟨c, hc, he⟩ := List.mem_map.1 (h2 ▸ List.mem_map_of_mem (f := Blob.p) hb)
    have h5 : c.data.l = b.data.l := congrArg BlP.bytes he
    rw [← h5]
    exact h.data c hc
  · obtain ⟨c, hc, he⟩ := List.mem_map.1 (h3 ▸ List.mem_map_of_mem (f := Blk.p) hb)
    have h5 : c.tx.l = b.tx.l := congrArg BlkP.txs he
    rw [← h5]
    exact h.tx c hc
  · obtain ⟨k, hk, he⟩ := List.mem_map.1 (h4 ▸ List.mem_map_of_mem (f := Job.p) hj)
    obtain ⟨c, hc, he2⟩ := List.mem_map.1 hk
    have h5 : (restJ c.p).tiers = (Job.p j).tiers := by rw [he2, he]
    rw [← fewP_tk (p := c.pay) (q := j.pay) h5]
    exact h.pay c hc
abbrev u8R (s : Bytes) : Res := rowR 5 1 u8L s
theorem sl_v {α β : Type} {s : Sl α} {t : Sl β} (h : s.v = t.v) : s.A = t.A ∧ s.l.length = t.l.length ∧ s.c = t.c := by
  unfold Sl.v at h
  injection h with h1 h2 h3
  exact ⟨h1, h2, h3⟩
abbrev tieR (s : Payload) : Res := rowR 51 2 Tier.c s
theorem Hp.part {α : Type} {S : Nat → Prop} {w0 w : World} {P : List Res} {L : List α} {f g : α → Res} (h : Hp S w0 w (P ++ L.map f)) (ho : ∀ a, (f a).ok w → (g a).ok w) (hd : ∀ a b, (g a).dom b → (f a).dom b) : Hp S w0 w (P ++ L.map g) := by
  have h1 := List.pairwise_append.1 h.sep
  refine ⟨h.chg, fun r hr => ?_, List.pairwise_append.2 ⟨h1.1, ?_, fun r hr r' hr' b hb => ?_⟩, fun r hr b hb => ?_⟩
  · rcases List.mem_append.1 hr with hr | hr
    · exact h.ok r (List.mem_append_left _ hr)
    · obtain ⟨a, ha, rfl⟩ := List.mem_map.1 hr
      exact ho a (h.ok _ (List.mem_append_right _ (List.mem_map_of_mem ha)))
  · rw [List.pairwise_map]
    exact (List.pairwise_map.1 h1.2.1).imp fun hab b hb hb' => hab b (hd _ _ hb) (hd _ _ hb')
  · obtain ⟨a, ha, rfl⟩ := List.mem_map.1 hr'
    exact fun hb' => h1.2.2 r hr (f a) (List.mem_map_of_mem ha) b hb (hd _ _ hb')
  · rcases List.mem_append.1 hr with hr | hr
    · exact h.own r (List.mem_append_left _ hr) b hb
    · obtain ⟨a, ha, rfl⟩ := List.mem_map.1 hr
      exact h.own _ (List.mem_append_right _ (List.mem_map_of_mem ha)) b (hd _ _ hb)
theorem jpayR_tie {w : World} (j : Job) (h : (jpayR j).ok w) : (tieR j.pay).ok w := (Hp.open (show (star (payRs j.pay)).ok w from h)).get (j := 0) rfl
theorem jpayR_dom (j : Job) (b : Nat) (h : (tieR j.pay).dom b) : (jpayR j).dom b := star_dom.2 ⟨_, List.mem_cons_self .., h⟩
theorem set_same {α : Type} {l : List α} {i : Nat} {a : α} (h : l[i]? = some a) : l.set i a = l := by
  apply List.ext_getElem?
  intro j
  rw [List.getElem?_set]
  split
  · rename_i hij
    subst hij
    rw [h]
    have := (List.getElem?_eq_some_iff.1 h).1
    simp [this]
  · rfl
theorem map_at {α β γ : Type} {f : α → β} {g : γ → β} {E : List α} {E' : List γ} (h : E.map f = E'.map g) {i : Nat} {y : γ} (hy : E'[i]? = some y) : ∃ z, E[i]? = some z ∧ f z = g y := by
  have h1 := congrArg (fun l : List β => l[i]?) h
  simp only [List.getElem?_map, hy] at h1
  cases hz : E[i]? with
  | none => rw [hz] at h1; cases h1
  | some z => rw [hz] at h1; exact ⟨z, rfl, Option.some.inj h1⟩
theorem map_set_same {α β : Type} {f : α → β} {E : List α} {i : Nat} {z z' : α} (hz : E[i]? = some z) (h : f z' = f z) : (E.set i z').map f = E.map f := by
  rw [List.map_set, h]
  exact set_same (by rw [List.getElem?_map, hz]; rfl)
theorem ar_inc8 {f : Int → Prop} (z : UInt8) (h : f ((z + 1).toNat : Int)) : Ar .u8 ((z.toNat : Int) + 1) f := by
  refine ⟨_, ?_, h⟩
  rw [show ((z.toNat : Int) + 1) = ((z.toNat + 1 : Nat) : Int) from rfl, wrap_u8, UInt8.toNat_add]
  rfl
theorem st_own9 {α : Type} {S : Nat → Prop} {w0 w : World} {rs : List Res} {enc : α → List Value} {e : TypeId} {sz : Nat} {s : Sl α} {a : Addr} {vs : List Value} {k : World → Prop} (h : Hp S w0 w rs) (j : Nat) (hj : rs[j]? = some (rowR e sz enc s)) {b ofs : Nat} (hA : s.A = some ⟨b, ofs, none⟩) (i : Nat) (ha : a = ⟨b, ofs + i * sz, none⟩) (x' : α) (hv : vs = enc x')
    (hi : i < s.l.length) (hs : ∀ x : α, (enc x).length = sz) (h1 : (enc x').all Value.oneCell' = true) (hk : ∀ w', Hp S w0 w' (rs.set j (rowR e sz enc ⟨s.A, s.c, s.l.set i x'⟩)) → k w') : St w a vs k := by
  subst hv
  refine st_own h j hj hA i 0 (by rw [ha]; rfl) (List.getElem?_eq_getElem hi) x' ?_ (by rw [hs, Nat.zero_add]; exact Nat.le_refl _) h1 hk
  have key : ∀ (vs cs : List Value), cs.length = vs.length → layL vs 0 cs = vs := by
    intro vs cs hl
    have := layL_app vs [] cs [] hl
    simpa using this
  exact (key _ _ (by rw [hs, hs])).symm
theorem impRests_any {B : Nat} {w0 : World} {x : Sta} (hs : StaAt B w0 x) (hb : StaB 1048576 x) (hBw : B ≤ w0.heap.size) : Calls Tryz.prog 3 #[x.v] w0 fun e w' => e = .returned (.bool true) ∧ Chg N0 w0 w' := by
  have hp := Hp.start (S := N0) w0
  have hB : ∀ b, N0 b → B ≤ b := fun _ hh => hh.elim
  have u1 := Tryz.underlying27
  have u2 := Tryz.underlying28
  have u3 := Tryz.underlying26
  have u4 := Tryz.underlying29
  have u5 := Tryz.underlying38
  have u6 := Tryz.underlying45
  have hfw := fun {w : World} (hc : Chg N0 w0 w) => few31_any (hs.keep hc hB) hb
  cases hq : fewS x with
  | false =>
    rw [hq] at hfw
    refine calls_x (args := [_]) tabOk Tryz.func3 Tryz.ntmps3 Tryz.results3 rfl (Nat.le_of_ble_eq_true rfl) ?_
    ((conv => whnf); repeat' ((first | ((with_reducible refine br_id ?_); first | (with_reducible refine br_f ?_) | (with_reducible refine br_not ?_)) | ((with_reducible refine ldn_id ?_); (apply lda_hs hp; (focus ((repeat (first | exact Has.here | apply Has.there)); done)); exact rfl)) | ((with_reducible refine al_id ?_); (refine al_cel hp ?_; clear hp; intro bb w hp)) | ((with_reducible refine cl_id ?_); first | ((refine cl_eq ((hfw hp.chg)) rfl rfl ?_; rintro e w ⟨rfl, hcc⟩; replace hp := hp.call0 hcc; refine ⟨_, rfl, ?_⟩)) | ((refine cl_eq ((alive32_any _)) rfl rfl ?_; rintro e w ⟨rfl, hcc⟩; replace hp := hp.call0 hcc; refine ⟨_, rfl, ?_⟩)))) <;> (conv => whnf)))
    exact ps_val (v' := .bool true) rfl ⟨rfl, hp.chg⟩
  | true =>
  rw [hq] at hfw
  have hf := fewS_at hq
  refine calls_x (args := [_]) tabOk Tryz.func3 Tryz.ntmps3 Tryz.results3 rfl (Nat.le_of_ble_eq_true rfl) ?_
  ((conv => whnf); repeat' ((first | ((with_reducible refine br_id ?_); first | (with_reducible refine br_t ?_) | (with_reducible refine br_not ?_)) | ((with_reducible refine ldn_id ?_); (apply lda_hs hp; (focus ((repeat (first | exact Has.here | apply Has.there)); done)); exact rfl)) | ((with_reducible refine al_id ?_); (refine al_cel hp ?_; clear hp; intro bb w hp)) | ((with_reducible refine cl_id ?_); ((refine cl_eq ((hfw hp.chg)) rfl rfl ?_; rintro e w ⟨rfl, hcc⟩; replace hp := hp.call0 hcc; refine ⟨_, rfl, ?_⟩)))) <;> (conv => whnf)))
  obtain ⟨b1, hb1⟩ : ∃ b, b = bb := ⟨_, rfl⟩
  subst hb1
  refine dr_cut (fun e w => ∃ (b3 b4 : Nat) (r q : Sta) (e0 : Nat → Value), r.p = restP x.p ∧ q.p = restP x.p ∧ e = eat [(1, ptr b1), (3, ptr b3), (4, ptr b4)] ⟨e0, []⟩ ∧ Hp N0 w0 w [cel b3 31 r.c.toArray, cel b4 31 q.c.toArray, star (staRs r), star (staRs q), cel b1 31 x.c.toArray]) ?_ ?_
  · ((conv => whnf); repeat' ((first | ((with_reducible refine cn_id ?_); first | (refine cn rfl ?_) | (refine cn (by assumption) ?_)) | ((with_reducible refine ldn_id ?_); (apply lda_hs hp; (focus ((repeat (first | exact Has.here | apply Has.there)); done)); exact rfl)) | ((with_reducible refine al_id ?_); (refine al_cel hp ?_; clear hp; intro bb w hp)) | ((with_reducible refine st_id ?_); (apply sta_hs hp; (focus ((repeat (first | exact Has.here | apply Has.there)); done)); exact rfl; exact rfl; clear hp; intro w hp; (try dsimp only [List.set] at hp))) | ((with_reducible refine dr_id ?_); (refine dr_autot tabOk (by kernel_rfl) (by decide +kernel) ?_; (try replace hp := hp.drew))) | ((with_reducible refine fk_id ?_); (refine fk_mk ?_ ?_)) | ((with_reducible refine cl_id ?_); ((refine cl_eq (rested_any (hs.keep hp.chg hB) (Nat.le_trans hBw hp.chg.size) hf) rfl rfl ?_; (first | (have _ := hr1; rintro e w ⟨r2, hr2, rfl, hm⟩) | rintro e w ⟨r1, hr1, rfl, hm⟩); replace hp := hp.add hm; replace hm := hm.chg; refine ⟨_, rfl, ?_⟩)))) <;> (conv => whnf)))
    all_goals first
      | exact ⟨_, _, r1, r2, _, hr1, hr2, eat_holds (by (repeat' (first | exact trivial | (refine ⟨rfl, ?_⟩)))), hp.pick [0, 1, 3, 2, 4] (by decide) rfl⟩
      | exact ⟨_, _, r1, r2, _, hr1, hr2, eat_holds (by (repeat' (first | exact trivial | (refine ⟨rfl, ?_⟩)))), hp.pick [0, 2, 3, 1, 4] (by decide) rfl⟩
      | exact ⟨_, _, r1, r2, _, hr1, hr2, eat_holds (by (repeat' (first | exact trivial | (refine ⟨rfl, ?_⟩)))), hp.pick [0, 3, 2, 1, 4] (by decide) rfl⟩
      | exact ⟨_, _, r1, r2, _, hr1, hr2, eat_holds (by (repeat' (first | exact trivial | (refine ⟨rfl, ?_⟩)))), hp.pick [1, 0, 3, 2, 4] (by decide) rfl⟩
      | exact ⟨_, _, r1, r2, _, hr1, hr2, eat_holds (by (repeat' (first | exact trivial | (refine ⟨rfl, ?_⟩)))), hp.pick [1, 2, 3, 0, 4] (by decide) rfl⟩
      | exact ⟨_, _, r1, r2, _, hr1, hr2, eat_holds (by (repeat' (first | exact trivial | (refine ⟨rfl, ?_⟩)))), hp.pick [1, 3, 2, 0, 4] (by decide) rfl⟩
      | exact ⟨_, _, r1, r2, _, hr1, hr2, eat_holds (by (repeat' (first | exact trivial | (refine ⟨rfl, ?_⟩)))), hp.pick [2, 0, 3, 1, 4] (by decide) rfl⟩
      | exact ⟨_, _, r1, r2, _, hr1, hr2, eat_holds (by (repeat' (first | exact trivial | (refine ⟨rfl, ?_⟩)))), hp.pick [2, 1, 3, 0, 4] (by decide) rfl⟩
      | exact ⟨_, _, r1, r2, _, hr1, hr2, eat_holds (by (repeat' (first | exact trivial | (refine ⟨rfl, ?_⟩)))), hp.pick [2, 3, 1, 0, 4] (by decide) rfl⟩
      | exact ⟨_, _, r1, r2, _, hr1, hr2, eat_holds (by (repeat' (first | exact trivial | (refine ⟨rfl, ?_⟩)))), hp.pick [3, 0, 2, 1, 4] (by decide) rfl⟩
      | exact ⟨_, _, r1, r2, _, hr1, hr2, eat_holds (by (repeat' (first | exact trivial | (refine ⟨rfl, ?_⟩)))), hp.pick [3, 1, 2, 0, 4] (by decide) rfl⟩
      | exact ⟨_, _, r1, r2, _, hr1, hr2, eat_holds (by (repeat' (first | exact trivial | (refine ⟨rfl, ?_⟩)))), hp.pick [3, 2, 1, 0, 4] (by decide) rfl⟩
  clear hp
  rintro e w ⟨b3, b4, r, q, e0, hr, hq2, rfl, hp⟩
  have hfr := few_rest hf hr
  have hrx : ∀ {J : Sl Job}, J.l = x.jobs.l.map restB → Sta.p { x with jobs := J } = restP x.p := fun {J} hJ => by
    unfold Sta.p restP
    simp only [hJ, List.map_map]
    rfl
  have hsame1 : ∀ {w : World} {rs : List Res} {J : Sl Job} {z : Sta}, J.l = x.jobs.l.map restB → z.p = restP x.p → Hp N0 w0 w rs → star (staRs z) ∈ rs → rowR 49 38 Job.c J ∈ rs → Calls Tryz.prog 12 #[z.v, Sta.v { x with jobs := J }] w fun e w' => e = .returned (.bool true) ∧ Chg N0 w w' := fun {w rs J z} hJ hz hp h1 h2 => by
    have t := (hs.keep hp.chg hB).more (Nat.le_trans hBw hp.chg.size)
    have h3 : StaAt w.heap.size w { x with jobs := J } := ⟨t.win, t.tx, t.ses, t.blobs, rowR_at (hp.ok _ h2), fun j hj => by
      rw [show Sta.jobs { x with jobs := J } = J from rfl, hJ] at hj
      obtain ⟨k, hk, rfl⟩ := List.mem_map.1 hj
      exact t.pay k hk⟩
    have h4 := same31_any (hp.sta h1) h3
    rw [decide_eq_true (hz.trans (hrx hJ).symm)] at h4
    exact h4
  have hsame2 : ∀ {w : World} {rs : List Res} {z : Sta}, z.p = restP r.p → Hp N0 w0 w rs → star (staRs z) ∈ rs → star (staRs r) ∈ rs → Calls Tryz.prog 12 #[z.v, r.v] w fun e w' => e = .returned (.bool true) ∧ Chg N0 w w' := fun {w rs z} hz hp h1 h2 => by
    have h4 := same31_any (hp.sta h1) (hp.sta h2)
    rw [decide_eq_true (show z.p = r.p by rw [hz, hr, restP_rest])] at h4
    exact h4
  ((conv => whnf); repeat' ((first | ((with_reducible refine br_id ?_); first | (with_reducible refine br_t ?_) | (with_reducible refine br_f ?_) | (with_reducible refine br_not ?_)) | ((with_reducible refine cn_id ?_); (refine cn (by assumption) ?_)) | ((with_reducible refine ld_id ?_); (apply ld_hs hp; (focus ((repeat (first | exact Has.here | apply Has.there)); done)); exact rfl)) | ((with_reducible refine ldn_id ?_); (apply lda_hs hp; (focus ((repeat (first | exact Has.here | apply Has.there)); done)); exact rfl)) | ((with_reducible refine gen_id ?_); (apply gen_len; exact rfl; exact rfl; assumption)) | ((with_reducible refine dr_id ?_); ((refine dr_autos [] 11 tabOk (by kernel_rfl) (by decide +kernel) ?_); replace hp := hp.drew)) | ((with_reducible refine cl_id ?_); first | ((refine cl_eq (rrested_any ((hs.keep hp.chg hB).more (Nat.le_trans hBw hp.chg.size)) hf.jobs) rfl rfl ?_; rintro e w ⟨J, hJ, rfl, hm⟩; replace hp := hp.add hm; replace hm := hm.chg; refine ⟨_, rfl, ?_⟩)) | ((refine cl_eq (rested_any (hp.sta (x := r) (by simp)) (Nat.le_refl _) hfr) rfl rfl ?_; rintro e w ⟨r3, hr3, rfl, hm⟩; replace hp := hp.add hm; replace hm := hm.chg; refine ⟨_, rfl, ?_⟩)) | ((refine cl_eq ((hsame1 hJ hr hp (by simp) (by simp))) rfl rfl ?_; rintro e w ⟨rfl, hcc⟩; replace hp := hp.call0 hcc; refine ⟨_, rfl, ?_⟩)) | ((refine cl_eq ((hsame2 hr3 hp (by simp) (by simp))) rfl rfl ?_; rintro e w ⟨rfl, hcc⟩; replace hp := hp.call0 hcc; refine ⟨_, rfl, ?_⟩)))) <;> (conv => whnf)))
  have f1 := hfr.ses
  have f2 := hfr.blobs
  have f3 := hfr.win
  have f4 := hfr.jobs
  have hp0 : Hp N0 w0 w (cel b3 31 r.c.toArray :: cel b4 31 q.c.toArray :: star (staRs q) :: cel b1 31 x.c.toArray :: star (winRs r.win) :: sesR r.ses :: star (jobRs r.jobs) :: rowR 40 19 Blob.c r.blobs :: (r.blobs.l.map (·.data)).map u8R) := by
    have h1 := (hp.pick (rs' := [star (staRs r), cel b3 31 r.c.toArray, cel b4 31 q.c.toArray, star (staRs q), cel b1 31 x.c.toArray]) [4, 2, 3, 5, 6] (by decide) rfl).unfold
    have h2 := (h1.pick (rs' := [star (blobRs r.blobs), cel b3 31 r.c.toArray, cel b4 31 q.c.toArray, star (staRs q), cel b1 31 x.c.toArray, star (winRs r.win), sesR r.ses, star (jobRs r.jobs)]) [2, 4, 5, 6, 7, 0, 1, 3] (by decide) rfl).unfold
    rw [List.map_map]
    exact h2.perm (List.perm_append_comm (l₁ := blobRs r.blobs))
  clear hp
  refine lp_inv (α := Nat × List Bytes) (fun a => [(1, ptr b1), (3, ptr b3), (4, ptr b4), (33, i64 r.blobs.l.length), (34, i64 a.1)]) (fun a w => a.1 ≤ r.blobs.l.length ∧ a.2.map Sl.v = r.blobs.l.map (fun y => y.data.v) ∧ Hp N0 w0 w (cel b3 31 r.c.toArray :: cel b4 31 q.c.toArray :: star (staRs q) :: cel b1 31 x.c.toArray :: star (winRs r.win) :: sesR r.ses :: star (jobRs r.jobs) :: rowR 40 19 Blob.c r.blobs :: a.2.map u8R)) (fun a => r.blobs.l.length - a.1) (0, r.blobs.l.map (·.data)) (by (repeat' (first | exact trivial | (refine ⟨rfl, ?_⟩)))) ⟨by omega, by rw [List.map_map]; rfl, hp0⟩ ?_
  clear hp0
  rintro ⟨i, E⟩ e0 w ⟨hi, hE, hp⟩
  dsimp only at hi hE hp ⊢
  rcases Nat.lt_or_ge i r.blobs.l.length with hlt | hge
  · obtain ⟨b, o, y, hA, hbb, hrow, hyy⟩ := (hp.row (j := 7) rfl).has hlt
    have hmem := List.mem_of_getElem? hyy
    have hyd := hfr.data y hmem
    ((conv => whnf); repeat' ((first | ((with_reducible refine br_id ?_); ((with_reducible refine br_dec (fun hx => ?_) (fun hx => ?_)) <;> (try (exfalso; first | omega | exact absurd hx (by assumption) | exact absurd (by assumption) hx)))) | ((with_reducible refine ld_id ?_); first | ((refine ld_own hp 7 rfl hA i 18 rfl hyy rfl ?_)) | (apply ld_hs hp; (focus ((repeat (first | exact Has.here | apply Has.there)); done)); exact rfl)) | ((with_reducible refine gen_id ?_); first | ((refine gen_ixs rfl rfl hA rfl rfl (by omega) ?_)) | (apply gen_len; exact rfl; exact rfl; assumption))) <;> (conv => whnf)))
    refine lp_inv (α := Nat × List Bytes) (fun a => [(1, ptr b1), (3, ptr b3), (4, ptr b4), (33, i64 r.blobs.l.length), (34, i64 i), (5, i64 i), (43, i64 y.data.l.length), (44, i64 a.1)]) (fun a w => a.1 ≤ y.data.l.length ∧ a.2.map Sl.v = r.blobs.l.map (fun y => y.data.v) ∧ Hp N0 w0 w (cel b3 31 r.c.toArray :: cel b4 31 q.c.toArray :: star (staRs q) :: cel b1 31 x.c.toArray :: star (winRs r.win) :: sesR r.ses :: star (jobRs r.jobs) :: rowR 40 19 Blob.c r.blobs :: a.2.map u8R)) (fun a => y.data.l.length - a.1) (0, E) (by (repeat' (first | exact trivial | (refine ⟨rfl, ?_⟩)))) ⟨by omega, hE, hp⟩ ?_
    clear hp hE E hrow
    rintro ⟨k, E⟩ e0 w ⟨hk, hE, hp⟩
    dsimp only at hk hE hp ⊢
    rcases Nat.lt_or_ge k y.data.l.length with hlk | hgk
    · obtain ⟨z, hz, hzv⟩ := map_at hE hyy
      obtain ⟨hzA, hzl, hzc⟩ := sl_v hzv
      have hj : (cel b3 31 r.c.toArray :: cel b4 31 q.c.toArray :: star (staRs q) :: cel b1 31 x.c.toArray :: star (winRs r.win) :: sesR r.ses :: star (jobRs r.jobs) :: rowR 40 19 Blob.c r.blobs :: E.map u8R)[i + 8]? = some (rowR 5 1 u8L z) := by
        show (E.map u8R)[i]? = _
        rw [List.getElem?_map, hz]
        rfl
      obtain ⟨bz, oz, uz, hAz, _, _, hu⟩ := (hp.row hj).has (i := k) (by rw [hzl]; exact hlk)
      have hAy : y.data.A = some ⟨bz, oz, none⟩ := hzA ▸ hAz
      ((conv => whnf); repeat' ((first | ((with_reducible refine br_id ?_); ((with_reducible refine br_dec (fun hx => ?_) (fun hx => ?_)) <;> (try (exfalso; first | omega | exact absurd hx (by assumption) | exact absurd (by assumption) hx)))) | ((with_reducible refine ar_id ?_); first | ((refine ar_inc8 uz ?_)) | (refine ar_i64 (by omega) ?_)) | ((with_reducible refine cn_id ?_); (refine cn rfl ?_)) | ((with_reducible refine ld_id ?_); first | ((refine ld_own hp 7 rfl hA i 18 rfl hyy rfl ?_)) | ((refine ld_own0 hp (i + 8) hj hAz k rfl hu rfl ?_)) | (apply ld_hs hp; (focus ((repeat (first | exact Has.here | apply Has.there)); done)); exact rfl)) | ((with_reducible refine st_id ?_); ((refine st_own9 hp (i + 8) hj hAz k rfl (uz + 1) rfl (by omega) (fun _ => rfl) rfl ?_); clear hp; intro w hp)) | ((with_reducible refine gen_id ?_); first | ((refine gen_ixs rfl rfl hA rfl rfl (by omega) ?_)) | ((refine gen_ixs rfl rfl hAy rfl rfl (by omega) ?_)))) <;> (conv => whnf)))
      refine lp_next (k + 1, E.set i ⟨z.A, z.c, z.l.set k (uz + 1)⟩) (by show y.data.l.length - (k + 1) < y.data.l.length - k; omega) (by (repeat' (first | exact trivial | (refine ⟨rfl, ?_⟩)))) ⟨by show k + 1 ≤ _; omega, ?_, ?_⟩
      · refine Eq.trans (map_set_same hz ?_) hE
        unfold Sl.v
        simp
      · show Hp N0 w0 w (_ :: _ :: _ :: _ :: _ :: _ :: _ :: _ :: (E.set i _).map u8R)
        rw [List.map_set]
        exact hp
    · ((conv => whnf); repeat' ((first | ((with_reducible refine br_id ?_); ((with_reducible refine br_dec (fun hx => ?_) (fun hx => ?_)) <;> (try (exfalso; first | omega | exact absurd hx (by assumption) | exact absurd (by assumption) hx)))) | ((with_reducible refine ar_id ?_); (refine ar_i64 (by omega) ?_))) <;> (conv => whnf)))
      exact lp_next (i + 1, E) (by show r.blobs.l.length - (i + 1) < r.blobs.l.length - i; omega) (by (repeat' (first | exact trivial | (refine ⟨rfl, ?_⟩)))) ⟨by show i + 1 ≤ _; omega, hE, hp⟩
  clear hi hE
  have hp0 : Hp N0 w0 w (cel b3 31 r.c.toArray :: cel b4 31 q.c.toArray :: star (staRs q) :: cel b1 31 x.c.toArray :: star (winRs r.win) :: sesR r.ses :: rowR 49 38 Job.c ⟨r.jobs.A, r.jobs.c, r.jobs.l⟩ :: (r.jobs.l.map (·.pay)).map tieR) := by
    have h1 := hp.sub (rs' := [cel b3 31 r.c.toArray, cel b4 31 q.c.toArray, star (staRs q), cel b1 31 x.c.toArray, star (winRs r.win), sesR r.ses, star (jobRs r.jobs)]) (List.sublist_append_left _ _)
    have h2 := (h1.pick (rs' := [star (jobRs r.jobs), cel b3 31 r.c.toArray, cel b4 31 q.c.toArray, star (staRs q), cel b1 31 x.c.toArray, star (winRs r.win), sesR r.ses]) [6, 0, 1, 2, 3, 4, 5] (by decide) rfl).unfold
    have h3 : Hp N0 w0 w ([cel b3 31 r.c.toArray, cel b4 31 q.c.toArray, star (staRs q), cel b1 31 x.c.toArray, star (winRs r.win), sesR r.ses, rowR 49 38 Job.c r.jobs] ++ r.jobs.l.map jpayR) := h2.perm (List.perm_append_comm (l₁ := jobRs r.jobs))
    rw [List.map_map]
    exact h3.part (fun j => jpayR_tie j) jpayR_dom
  clear hp
  have hp := hp0
  clear hp0
  ((conv => whnf); repeat' ((first | ((with_reducible refine br_id ?_); ((with_reducible refine br_dec (fun hx => ?_) (fun hx => ?_)) <;> (try (exfalso; first | omega | exact absurd hx (by assumption) | exact absurd (by assumption) hx)))) | ((with_reducible refine ld_id ?_); (apply ld_hs hp; (focus ((repeat (first | exact Has.here | apply Has.there)); done)); exact rfl)) | ((with_reducible refine gen_id ?_); (apply gen_len; exact rfl; exact rfl; assumption))) <;> (conv => whnf)))
  refine lp_inv (α := Nat × List Job × List Payload) (fun a => [(1, ptr b1), (3, ptr b3), (4, ptr b4), (62, i64 r.jobs.l.length), (63, i64 a.1)]) (fun a w => a.1 ≤ r.jobs.l.length ∧ a.2.1.map (fun j => j.pay.v) = r.jobs.l.map (fun j => j.pay.v) ∧ a.2.2.map Sl.v = r.jobs.l.map (fun j => j.pay.v) ∧ Hp N0 w0 w (cel b3 31 r.c.toArray :: cel b4 31 q.c.toArray :: star (staRs q) :: cel b1 31 x.c.toArray :: star (winRs r.win) :: sesR r.ses :: rowR 49 38 Job.c ⟨r.jobs.A, r.jobs.c, a.2.1⟩ :: a.2.2.map tieR)) (fun a => r.jobs.l.length - a.1) (0, r.jobs.l, r.jobs.l.map (·.pay)) (by (repeat' (first | exact trivial | (refine ⟨rfl, ?_⟩)))) ⟨by omega, rfl, by rw [List.map_map]; rfl, hp⟩ ?_
  clear hp
  rintro ⟨i, D, E⟩ e0 w ⟨hi, hD, hE, hp⟩
  dsimp only at hi hD hE hp ⊢
  have hDl : D.length = r.jobs.l.length := by have := congrArg List.length hD; rwa [List.length_map, List.length_map] at this
  rcases Nat.lt_or_ge i r.jobs.l.length with hlt | hge
  · have hyy0 := List.getElem?_eq_getElem hlt
    generalize r.jobs.l[i] = y0 at hyy0
    obtain ⟨b, o, y, hA, hbb, hrow, hyy⟩ := (hp.row (j := 6) rfl).has (i := i) (by show i < D.length; omega)
    have hA : r.jobs.A = some ⟨b, o, none⟩ := hA
    have hyy : D[i]? = some y := hyy
    clear hrow
    have hy0 : fewP y0.pay = true := hfr.pay y0 (List.mem_of_getElem? hyy0)
    have hyv : y.pay.v = y0.pay.v := by
      obtain ⟨y1, h1, h2⟩ := map_at hD hyy0
      rw [hyy] at h1
      cases h1
      exact h2
    obtain ⟨_, hyl, _⟩ := sl_v hyv
    have hyl2 : y.pay.l.length ≤ 20 := by rw [hyl]; exact (fewP_at hy0).2
    obtain ⟨y', hy'⟩ : ∃ y' : Job, y' = { y with height := y.height + 1 } := ⟨_, rfl⟩
    have hc' : Job.c y' = layL [u32 (y.height + 1)] 34 (Job.c y) := by rw [hy']; rfl
    have hpy : y'.pay = y.pay := by rw [hy']
    obtain ⟨D', hD'⟩ : ∃ D', D' = D.set i y' := ⟨_, rfl⟩
    have hyy' : D'[i]? = some y' := by rw [hD', List.getElem?_set_self (by omega)]
    have hDm : D'.map (fun j => j.pay.v) = r.jobs.l.map (fun j => j.pay.v) := by rw [hD']; exact (map_set_same hyy (by rw [hpy])).trans hD
    clear hy'
    ((conv => whnf); repeat' ((first | ((with_reducible refine br_id ?_); ((with_reducible refine br_dec (fun hx => ?_) (fun hx => ?_)) <;> (try (exfalso; first | omega | exact absurd hx (by assumption) | exact absurd (by assumption) hx)))) | ((with_reducible refine ar_id ?_); ((refine ar_inc ?_))) | ((with_reducible refine cn_id ?_); (refine cn rfl ?_)) | ((with_reducible refine ld_id ?_); first | ((refine ld_own hp 6 rfl hA i 34 rfl hyy rfl ?_)) | ((refine ld_own hp 6 rfl hA i 37 rfl hyy' rfl ?_)) | (apply ld_hs hp; (focus ((repeat (first | exact Has.here | apply Has.there)); done)); exact rfl)) | ((with_reducible refine st_id ?_); ((refine st_own hp 6 rfl hA i 34 rfl hyy y' hc' (by simp) rfl ?_); clear hp; intro w hp; replace hp : Hp N0 w0 w (cel b3 31 r.c.toArray :: cel b4 31 q.c.toArray :: star (staRs q) :: cel b1 31 x.c.toArray :: star (winRs r.win) :: sesR r.ses :: rowR 49 38 Job.c ⟨r.jobs.A, r.jobs.c, D.set i y'⟩ :: E.map tieR) := hp; rw [← hD'] at hp)) | ((with_reducible refine gen_id ?_); first | ((refine gen_ixs rfl rfl hA rfl rfl (by omega) ?_)) | (apply gen_len; exact rfl; exact rfl; assumption))) <;> (conv => whnf)))
    rw [hpy]
    refine lp_inv (α := Nat × List Payload) (fun a => [(1, ptr b1), (3, ptr b3), (4, ptr b4), (62, i64 r.jobs.l.length), (63, i64 i), (7, i64 i), (82, i64 y.pay.l.length), (83, i64 a.1)]) (fun a w => a.1 ≤ y.pay.l.length ∧ a.2.map Sl.v = r.jobs.l.map (fun j => j.pay.v) ∧ Hp N0 w0 w (cel b3 31 r.c.toArray :: cel b4 31 q.c.toArray :: star (staRs q) :: cel b1 31 x.c.toArray :: star (winRs r.win) :: sesR r.ses :: rowR 49 38 Job.c ⟨r.jobs.A, r.jobs.c, D'⟩ :: a.2.map tieR)) (fun a => y.pay.l.length - a.1) (0, E) (by (repeat' (first | exact trivial | (refine ⟨rfl, ?_⟩)))) ⟨by omega, hE, hp⟩ ?_
    clear hp hE E
    rintro ⟨k, E⟩ e0 w ⟨hk, hE, hp⟩
    dsimp only at hk hE hp ⊢
    rcases Nat.lt_or_ge k y.pay.l.length with hlk | hgk
    · obtain ⟨z, hz, hzv⟩ := map_at hE hyy0
      obtain ⟨hzA, hzl, hzc⟩ := sl_v (hzv.trans hyv.symm)
      have hj : (cel b3 31 r.c.toArray :: cel b4 31 q.c.toArray :: star (staRs q) :: cel b1 31 x.c.toArray :: star (winRs r.win) :: sesR r.ses :: rowR 49 38 Job.c ⟨r.jobs.A, r.jobs.c, D'⟩ :: E.map tieR)[i + 7]? = some (rowR 51 2 Tier.c z) := by
        show (E.map tieR)[i]? = _
        rw [List.getElem?_map, hz]
        rfl
      obtain ⟨bz, oz, uz, hAz, _, _, hu⟩ := (hp.row hj).has (i := k) (by rw [hzl]; exact hlk)
      have hAy : y'.pay.A = some ⟨bz, oz, none⟩ := by rw [hpy, ← hzA]; exact hAz
      ((conv => whnf); repeat' ((first | ((with_reducible refine br_id ?_); ((with_reducible refine br_dec (fun hx => ?_) (fun hx => ?_)) <;> (try (exfalso; first | omega | exact absurd hx (by assumption) | exact absurd (by assumption) hx)))) | ((with_reducible refine ar_id ?_); first | ((refine ar_inc ?_)) | (refine ar_i64 (by omega) ?_)) | ((with_reducible refine cn_id ?_); (refine cn rfl ?_)) | ((with_reducible refine ld_id ?_); first | ((refine ld_own hp 6 rfl hA i 37 rfl hyy' rfl ?_)) | ((refine ld_own0 hp (i + 7) hj hAz k rfl hu rfl ?_)) | (apply ld_hs hp; (focus ((repeat (first | exact Has.here | apply Has.there)); done)); exact rfl)) | ((with_reducible refine st_id ?_); ((refine st_own hp (i + 7) hj hAz k 0 rfl hu { uz with fee := uz.fee + 1 } rfl (by simp) rfl ?_); clear hp; intro w hp)) | ((with_reducible refine gen_id ?_); first | ((refine gen_ixs rfl rfl hA rfl rfl (by omega) ?_)) | ((refine gen_ixs rfl rfl hAy rfl rfl (by rw [hpy]; omega) ?_)))) <;> (conv => whnf)))
      refine lp_next (k + 1, E.set i ⟨z.A, z.c, z.l.set k { uz with fee := uz.fee + 1 }⟩) (by show y.pay.l.length - (k + 1) < y.pay.l.length - k; omega) (by (repeat' (first | exact trivial | (refine ⟨rfl, ?_⟩)))) ⟨by show k + 1 ≤ _; omega, ?_, ?_⟩
      · refine Eq.trans (map_set_same hz ?_) hE
        unfold Sl.v
        simp
      · show Hp N0 w0 w (_ :: _ :: _ :: _ :: _ :: _ :: _ :: (E.set i _).map tieR)
        rw [List.map_set]
        exact hp
    · ((conv => whnf); repeat' ((first | ((with_reducible refine br_id ?_); ((with_reducible refine br_dec (fun hx => ?_) (fun hx => ?_)) <;> (try (exfalso; first | omega | exact absurd hx (by assumption) | exact absurd (by assumption) hx)))) | ((with_reducible refine ar_id ?_); (refine ar_i64 (by omega) ?_))) <;> (conv => whnf)))
      exact lp_next (i + 1, D', E) (by show r.jobs.l.length - (i + 1) < r.jobs.l.length - i; omega) (by (repeat' (first | exact trivial | (refine ⟨rfl, ?_⟩)))) ⟨by show i + 1 ≤ _; omega, hDm, hE, hp⟩
  clear hi hD hE hDl
  have hp0 : Hp N0 w0 w (cel b3 31 r.c.toArray :: cel b4 31 q.c.toArray :: star (staRs q) :: cel b1 31 x.c.toArray :: sesR r.ses :: rowR 54 65 Blk.c ⟨r.win.A, r.win.c, r.win.l⟩ :: r.win.l.map btxR) := by
    have h1 := hp.sub (rs' := [cel b3 31 r.c.toArray, cel b4 31 q.c.toArray, star (staRs q), cel b1 31 x.c.toArray, star (winRs r.win), sesR r.ses]) (List.sublist_append_left _ _)
    have h2 := (h1.pick (rs' := star (winRs r.win) :: [cel b3 31 r.c.toArray, cel b4 31 q.c.toArray, star (staRs q), cel b1 31 x.c.toArray, sesR r.ses]) [4, 0, 1, 2, 3, 5] (by decide) rfl).unfold
    exact h2.perm (List.perm_append_comm (l₁ := winRs r.win))
  clear hp
  have hp := hp0
  clear hp0
  ((conv => whnf); repeat' ((first | ((with_reducible refine br_id ?_); ((with_reducible refine br_dec (fun hx => ?_) (fun hx => ?_)) <;> (try (exfalso; first | omega | exact absurd hx (by assumption) | exact absurd (by assumption) hx)))) | ((with_reducible refine ld_id ?_); (apply ld_hs hp; (focus ((repeat (first | exact Has.here | apply Has.there)); done)); exact rfl)) | ((with_reducible refine gen_id ?_); (apply gen_len; exact rfl; exact rfl; assumption))) <;> (conv => whnf)))
  refine lp_inv (α := Nat × List Blk) (fun a => [(1, ptr b1), (3, ptr b3), (4, ptr b4), (104, i64 r.win.l.length), (105, i64 a.1)]) (fun a w => a.1 ≤ r.win.l.length ∧ a.2.length = r.win.l.length ∧ a.2.drop a.1 = r.win.l.drop a.1 ∧ Hp N0 w0 w (cel b3 31 r.c.toArray :: cel b4 31 q.c.toArray :: star (staRs q) :: cel b1 31 x.c.toArray :: sesR r.ses :: rowR 54 65 Blk.c ⟨r.win.A, r.win.c, a.2⟩ :: a.2.map btxR)) (fun a => r.win.l.length - a.1) (0, r.win.l) (by (repeat' (first | exact trivial | (refine ⟨rfl, ?_⟩)))) ⟨by omega, rfl, rfl, hp⟩ ?_
  clear hp
  rintro ⟨i, D⟩ e0 w ⟨hi, hDl, hD, hp⟩
  dsimp only at hi hDl hD hp ⊢
  rcases Nat.lt_or_ge i r.win.l.length with hlt | hge
  · obtain ⟨b, o, y, hA, hbb, hrow, hyy⟩ := (hp.row (j := 5) rfl).has (i := i) (by show i < D.length; omega)
    have hA : r.win.A = some ⟨b, o, none⟩ := hA
    have hyy : D[i]? = some y := hyy
    clear hrow
    have hD1 : D.drop i = y :: D.drop (i + 1) := by
      have hl : i < D.length := by omega
      rw [List.drop_eq_getElem_cons hl]
      rw [List.getElem?_eq_getElem hl] at hyy
      rw [Option.some.inj hyy]
    have hyw : y ∈ r.win.l := List.mem_of_mem_drop (i := i) (by rw [← hD, hD1]; exact List.mem_cons_self ..)
    have hyl := hfr.tx y hyw
    have hD2 : D.drop (i + 1) = r.win.l.drop (i + 1) := by
      have := congrArg (List.drop 1) hD
      rwa [List.drop_drop, List.drop_drop] at this
    ((conv => whnf); repeat' (((with_reducible refine br_id ?_); ((with_reducible refine br_dec (fun hx => ?_) (fun hx => ?_)) <;> (try (exfalso; first | omega | exact absurd hx (by assumption) | exact absurd (by assumption) hx)))) <;> (conv => whnf)))
    refine dr_autos [0, 1] 11 tabOk (by kernel_rfl) (by decide +kernel) ?_
    replace hp := hp.drew
    ((conv => whnf); repeat' ((first | ((with_reducible refine ar_id ?_); (refine ar_i64 (by omega) ?_)) | ((with_reducible refine cn_id ?_); first | (refine cn rfl ?_) | (refine cn (Chg.refl _ _) ?_)) | ((with_reducible refine ld_id ?_); first | ((refine ld_own hp 5 rfl hA i 64 rfl hyy rfl ?_)) | (apply ld_hs hp; (focus ((repeat (first | exact Has.here | apply Has.there)); done)); exact rfl)) | ((with_reducible refine st_id ?_); ((refine st_own hp 6 rfl hA i 64 rfl hyy { y with tx := ⟨A2, c2, y.tx.l ++ [Id.z]⟩ } rfl (by simp) rfl ?_); clear hp; intro w hp)) | ((with_reducible refine gen_id ?_); first | ((refine gen_build (t := 44) (out := (Id.c Id.z)) rfl (by kernel_rfl) ?_)) | ((refine gen_bs rfl hp el_id Id.c [Id.z] [Id.v Id.z] rfl rfl rfl (fun _ hh => by simp at hh; subst hh; rfl) (by omega) ?_); clear hp; intro br w hp) | ((refine gen_app (s := y.tx) rfl hp (i + 7) (by show (D.map btxR)[i]? = _; rw [List.getElem?_map, hyy]; rfl) el_id rfl ⟨some ⟨br, 0, none⟩, 1, [Id.z]⟩ rfl (hp.row (j := 0) rfl) (fun _ _ => rfl) idL_one (by simp only [List.length_cons, List.length_nil]; omega) (by simp only [maxLen, List.length_cons, List.length_nil]; omega) ?_); clear hp; intro A2 c2 w hp; replace hp : Hp N0 w0 w (rowR 44 32 Id.c ⟨some ⟨br, 0, none⟩, 1, [Id.z]⟩ :: cel b3 31 r.c.toArray :: cel b4 31 q.c.toArray :: star (staRs q) :: cel b1 31 x.c.toArray :: sesR r.ses :: rowR 54 65 Blk.c ⟨r.win.A, r.win.c, D⟩ :: (D.map btxR).set i (rowR 44 32 Id.c ⟨A2, c2, y.tx.l ++ [Id.z]⟩)) := hp)) | ((with_reducible refine fk_id ?_); (refine fk_mk ?_ ?_)) | ((with_reducible refine rd_id ?_); ((refine rd_ixs rfl rfl hA rfl rfl (by omega) ?_)))) <;> (conv => whnf)))
    all_goals
      refine lp_next (i + 1, D.set i { y with tx := ⟨A2, c2, y.tx.l ++ [Id.z]⟩ }) (by show r.win.l.length - (i + 1) < r.win.l.length - i; omega) (by (repeat' (first | exact trivial | (refine ⟨rfl, ?_⟩)))) ⟨by show i + 1 ≤ _; omega, by show (D.set i _).length = _; rw [List.length_set]; exact hDl, ?_, ?_⟩
      · show (D.set i _).drop (i + 1) = _
        rw [List.drop_set_of_lt (by omega)]
        exact hD2
      · show Hp N0 w0 w (_ :: _ :: _ :: _ :: _ :: _ :: (D.set i _).map btxR)
        rw [List.map_set]
        exact hp.tail
  clear hi hD hDl
  have hp0 : Hp N0 w0 w [cel b3 31 r.c.toArray, cel b4 31 q.c.toArray, star (staRs q), cel b1 31 x.c.toArray, sesR ⟨r.ses.A, r.ses.c, r.ses.l⟩] := hp.sub (List.sublist_append_left _ _)
  clear hp
  have hp := hp0
  clear hp0
  ((conv => whnf); repeat' ((first | ((with_reducible refine br_id ?_); ((with_reducible refine br_dec (fun hx => ?_) (fun hx => ?_)) <;> (try (exfalso; first | omega | exact absurd hx (by assumption) | exact absurd (by assumption) hx)))) | ((with_reducible refine ld_id ?_); (apply ld_hs hp; (focus ((repeat (first | exact Has.here | apply Has.there)); done)); exact rfl)) | ((with_reducible refine gen_id ?_); (apply gen_len; exact rfl; exact rfl; assumption))) <;> (conv => whnf)))
  refine lp_inv (α := Nat × List Sess) (fun a => [(1, ptr b1), (3, ptr b3), (4, ptr b4), (125, i64 r.ses.l.length), (126, i64 a.1)]) (fun a w => a.1 ≤ r.ses.l.length ∧ a.2.length = r.ses.l.length ∧ Hp N0 w0 w [cel b3 31 r.c.toArray, cel b4 31 q.c.toArray, star (staRs q), cel b1 31 x.c.toArray, sesR ⟨r.ses.A, r.ses.c, a.2⟩]) (fun a => r.ses.l.length - a.1) (0, r.ses.l) (by (repeat' (first | exact trivial | (refine ⟨rfl, ?_⟩)))) ⟨by omega, rfl, hp⟩ ?_
  clear hp
  rintro ⟨i, D⟩ e0 w ⟨hi, hDl, hp⟩
  dsimp only at hi hDl hp ⊢
  rcases Nat.lt_or_ge i r.ses.l.length with hlt | hge
  · obtain ⟨b, o, y, hA, hbb, hrow, hyy⟩ := (hp.row (j := 4) rfl).has (i := i) (by show i < D.length; omega)
    have hA : r.ses.A = some ⟨b, o, none⟩ := hA
    have hyy : D[i]? = some y := hyy
    clear hrow
    ((conv => whnf); repeat' ((first | ((with_reducible refine br_id ?_); ((with_reducible refine br_dec (fun hx => ?_) (fun hx => ?_)) <;> (try (exfalso; first | omega | exact absurd hx (by assumption) | exact absurd (by assumption) hx)))) | ((with_reducible refine ar_id ?_); first | ((refine ar_inc ?_)) | (refine ar_i64 (by omega) ?_)) | ((with_reducible refine cn_id ?_); (refine cn rfl ?_)) | ((with_reducible refine ld_id ?_); first | ((refine ld_own0 hp 4 rfl hA i rfl hyy rfl ?_)) | (apply ld_hs hp; (focus ((repeat (first | exact Has.here | apply Has.there)); done)); exact rfl)) | ((with_reducible refine st_id ?_); ((refine st_own hp 4 rfl hA i 0 rfl hyy { y with id := y.id + 1 } rfl (by simp) rfl ?_); clear hp; intro w hp)) | ((with_reducible refine gen_id ?_); ((refine gen_ixs rfl rfl hA rfl rfl (by omega) ?_)))) <;> (conv => whnf)))
    exact lp_next (i + 1, D.set i { y with id := y.id + 1 }) (by show r.ses.l.length - (i + 1) < r.ses.l.length - i; omega) (by (repeat' (first | exact trivial | (refine ⟨rfl, ?_⟩)))) ⟨by show i + 1 ≤ _; omega, by show (D.set i _).length = _; rw [List.length_set]; exact hDl, hp⟩
  clear hi hDl
  ((conv => whnf); repeat' ((first | ((with_reducible refine br_id ?_); first | (with_reducible refine br_t ?_) | ((with_reducible refine br_dec (fun hx => ?_) (fun hx => ?_)) <;> (try (exfalso; first | omega | exact absurd hx (by assumption) | exact absurd (by assumption) hx)))) | ((with_reducible refine cn_id ?_); (refine cn (by assumption) ?_)) | ((with_reducible refine ldn_id ?_); (apply lda_hs hp; (focus ((repeat (first | exact Has.here | apply Has.there)); done)); exact rfl)) | ((with_reducible refine dr_id ?_); ((refine dr_autos [] 1000 tabOk (by kernel_rfl) (by decide +kernel) ?_); replace hp := hp.drew)) | ((with_reducible refine cl_id ?_); first | ((refine cl_eq (rrested_any ((hs.keep hp.chg hB).more (Nat.le_trans hBw hp.chg.size)) hf.jobs) rfl rfl ?_; rintro e w ⟨J, hJ, rfl, hm⟩; replace hp := hp.add hm; replace hm := hm.chg; refine ⟨_, rfl, ?_⟩)) | ((refine cl_eq ((hsame1 hJ hq2 hp (by simp) (by simp))) rfl rfl ?_; rintro e w ⟨rfl, hcc⟩; replace hp := hp.call0 hcc; refine ⟨_, rfl, ?_⟩)) | ((refine cl_eq ((alive32_any _)) rfl rfl ?_; rintro e w ⟨rfl, hcc⟩; replace hp := hp.call0 hcc; refine ⟨_, rfl, ?_⟩)))) <;> (conv => whnf)))
  exact ps_val (v' := .bool true) rfl ⟨rfl, hp.chg⟩
end Go.Proofs.YteabebmlclgakaaGreat
