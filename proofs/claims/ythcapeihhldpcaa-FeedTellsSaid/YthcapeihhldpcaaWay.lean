/- Way: the way from a block to another one, as the program tells it. -/
import Derived.Test.YthcapeihhldpcaaFork
namespace Go.Proofs.Ythcapeihhldpcaa
set_option linter.unusedSimpArgs false
set_option linter.unusedVariables false
open Go.RowKit
set_option maxRecDepth 100000
set_option maxHeartbeats 2000000

/-- an event -/
structure Evt where
  kind : Int
  blk : Blk
  id : Id
abbrev Evt.c (x : Evt) : List Value := (i64 x.kind :: Value.slice none 0 0 :: u8 x.blk.hash[0] :: u8 x.blk.hash[1] :: u8 x.blk.hash[2] :: u8 x.blk.hash[3] :: u8 x.blk.hash[4] :: u8 x.blk.hash[5] :: u8 x.blk.hash[6] :: u8 x.blk.hash[7] :: u8 x.blk.hash[8] :: u8 x.blk.hash[9] :: u8 x.blk.hash[10] :: u8 x.blk.hash[11] :: u8 x.blk.hash[12] :: u8 x.blk.hash[13] :: u8 x.blk.hash[14] :: u8 x.blk.hash[15] :: u8 x.blk.hash[16] :: u8 x.blk.hash[17] :: u8 x.blk.hash[18] :: u8 x.blk.hash[19] :: u8 x.blk.hash[20] :: u8 x.blk.hash[21] :: u8 x.blk.hash[22] :: u8 x.blk.hash[23] :: u8 x.blk.hash[24] :: u8 x.blk.hash[25] :: u8 x.blk.hash[26] :: u8 x.blk.hash[27] :: u8 x.blk.hash[28] :: u8 x.blk.hash[29] :: u8 x.blk.hash[30] :: u8 x.blk.hash[31] :: u8 x.blk.parent[0] :: u8 x.blk.parent[1] :: u8 x.blk.parent[2] :: u8 x.blk.parent[3] :: u8 x.blk.parent[4] :: u8 x.blk.parent[5] :: u8 x.blk.parent[6] :: u8 x.blk.parent[7] :: u8 x.blk.parent[8] :: u8 x.blk.parent[9] :: u8 x.blk.parent[10] :: u8 x.blk.parent[11] :: u8 x.blk.parent[12] :: u8 x.blk.parent[13] :: u8 x.blk.parent[14] :: u8 x.blk.parent[15] :: u8 x.blk.parent[16] :: u8 x.blk.parent[17] :: u8 x.blk.parent[18] :: u8 x.blk.parent[19] :: u8 x.blk.parent[20] :: u8 x.blk.parent[21] :: u8 x.blk.parent[22] :: u8 x.blk.parent[23] :: u8 x.blk.parent[24] :: u8 x.blk.parent[25] :: u8 x.blk.parent[26] :: u8 x.blk.parent[27] :: u8 x.blk.parent[28] :: u8 x.blk.parent[29] :: u8 x.blk.parent[30] :: u8 x.blk.parent[31] :: x.blk.tx.v :: u8 x.id[0] :: u8 x.id[1] :: u8 x.id[2] :: u8 x.id[3] :: u8 x.id[4] :: u8 x.id[5] :: u8 x.id[6] :: u8 x.id[7] :: u8 x.id[8] :: u8 x.id[9] :: u8 x.id[10] :: u8 x.id[11] :: u8 x.id[12] :: u8 x.id[13] :: u8 x.id[14] :: u8 x.id[15] :: u8 x.id[16] :: u8 x.id[17] :: u8 x.id[18] :: u8 x.id[19] :: u8 x.id[20] :: u8 x.id[21] :: u8 x.id[22] :: u8 x.id[23] :: u8 x.id[24] :: u8 x.id[25] :: u8 x.id[26] :: u8 x.id[27] :: u8 x.id[28] :: u8 x.id[29] :: u8 x.id[30] :: u8 x.id[31] :: i64 0 :: i64 0 :: i64 0 :: i64 0 :: [])
abbrev Evt.v (x : Evt) : Value := .agg (List.toArray (i64 x.kind :: Value.slice none 0 0 :: u8 x.blk.hash[0] :: u8 x.blk.hash[1] :: u8 x.blk.hash[2] :: u8 x.blk.hash[3] :: u8 x.blk.hash[4] :: u8 x.blk.hash[5] :: u8 x.blk.hash[6] :: u8 x.blk.hash[7] :: u8 x.blk.hash[8] :: u8 x.blk.hash[9] :: u8 x.blk.hash[10] :: u8 x.blk.hash[11] :: u8 x.blk.hash[12] :: u8 x.blk.hash[13] :: u8 x.blk.hash[14] :: u8 x.blk.hash[15] :: u8 x.blk.hash[16] :: u8 x.blk.hash[17] :: u8 x.blk.hash[18] :: u8 x.blk.hash[19] :: u8 x.blk.hash[20] :: u8 x.blk.hash[21] :: u8 x.blk.hash[22] :: u8 x.blk.hash[23] :: u8 x.blk.hash[24] :: u8 x.blk.hash[25] :: u8 x.blk.hash[26] :: u8 x.blk.hash[27] :: u8 x.blk.hash[28] :: u8 x.blk.hash[29] :: u8 x.blk.hash[30] :: u8 x.blk.hash[31] :: u8 x.blk.parent[0] :: u8 x.blk.parent[1] :: u8 x.blk.parent[2] :: u8 x.blk.parent[3] :: u8 x.blk.parent[4] :: u8 x.blk.parent[5] :: u8 x.blk.parent[6] :: u8 x.blk.parent[7] :: u8 x.blk.parent[8] :: u8 x.blk.parent[9] :: u8 x.blk.parent[10] :: u8 x.blk.parent[11] :: u8 x.blk.parent[12] :: u8 x.blk.parent[13] :: u8 x.blk.parent[14] :: u8 x.blk.parent[15] :: u8 x.blk.parent[16] :: u8 x.blk.parent[17] :: u8 x.blk.parent[18] :: u8 x.blk.parent[19] :: u8 x.blk.parent[20] :: u8 x.blk.parent[21] :: u8 x.blk.parent[22] :: u8 x.blk.parent[23] :: u8 x.blk.parent[24] :: u8 x.blk.parent[25] :: u8 x.blk.parent[26] :: u8 x.blk.parent[27] :: u8 x.blk.parent[28] :: u8 x.blk.parent[29] :: u8 x.blk.parent[30] :: u8 x.blk.parent[31] :: x.blk.tx.v :: u8 x.id[0] :: u8 x.id[1] :: u8 x.id[2] :: u8 x.id[3] :: u8 x.id[4] :: u8 x.id[5] :: u8 x.id[6] :: u8 x.id[7] :: u8 x.id[8] :: u8 x.id[9] :: u8 x.id[10] :: u8 x.id[11] :: u8 x.id[12] :: u8 x.id[13] :: u8 x.id[14] :: u8 x.id[15] :: u8 x.id[16] :: u8 x.id[17] :: u8 x.id[18] :: u8 x.id[19] :: u8 x.id[20] :: u8 x.id[21] :: u8 x.id[22] :: u8 x.id[23] :: u8 x.id[24] :: u8 x.id[25] :: u8 x.id[26] :: u8 x.id[27] :: u8 x.id[28] :: u8 x.id[29] :: u8 x.id[30] :: u8 x.id[31] :: i64 0 :: i64 0 :: i64 0 :: i64 0 :: []))
theorem el_evt : ElT Try.prog 176 219 103 184 := elt_of (z := (Evt.mk 0 Blk.z Id.z).v) Try.underlying176 (by kernel_rfl) rfl (by omega)
theorem evtL_one {l : List Evt} : ∀ x ∈ l, ∀ u ∈ Evt.c x, u.oneCell' = true := fun x _ u hu => by
  rw [show Evt.c x = [i64 x.kind, Value.slice none 0 0] ++ (Blk.c x.blk ++ (Id.c x.id ++ [i64 0, i64 0, i64 0, i64 0])) from rfl] at hu
  rcases List.mem_append.1 hu with hu | hu
  · simp at hu; rcases hu with rfl | rfl <;> rfl
  rcases List.mem_append.1 hu with hu | hu
  · exact blkL_one (l := [x.blk]) _ (by simp) u hu
  rcases List.mem_append.1 hu with hu | hu
  · exact idL_one (l := [x.id]) _ (by simp) u hu
  · simp at hu; subst hu; rfl
abbrev evD (x : Id) : Evt := ⟨3, Blk.z, x⟩
/-- what is told of a connected block -/
abbrev evT (e : Evt) : Int × Id × Id × Id × List Id := (e.kind, e.id, e.blk.hash, e.blk.parent, e.blk.tx.l)
abbrev evC (l : Ents) (y : Id) : Int × Id × Id × Id × List Id := (2, Id.z, ((mlk l y).getD Blk.z).hash, ((mlk l y).getD Blk.z).parent, ((mlk l y).getD Blk.z).tx.l)
def wayI (a c : List Id) : Option (Nat × Id) := match idxI (fun x => decide (x ∈ c)) a with
  | .ofNat i => some (i, (a[i]?).getD Id.z)
  | _ => none
def wayB (a c : List Id) : List Id := match wayI a c with | some (i, _) => a.take i | none => []
def wayF (a c : List Id) : List Id := match wayI a c with | some (_, x) => c.take (plc c x).toNat | none => []
theorem wayI_no {a c : List Id} (h : inter a c = -1) : wayI a c = none := by unfold wayI; rw [show idxI (fun x => decide (x ∈ c)) a = -1 from h]; rfl
theorem wayI_at {a c : List Id} {i : Nat} {x : Id} (h : inter a c = i) (hx : a[i]? = some x) : wayI a c = some (i, x) := by
  unfold wayI
  rw [show idxI (fun x => decide (x ∈ c)) a = Int.ofNat i from h]
  simp [hx]
abbrev txRow (e : Evt) : Res := rowR 55 32 Id.c e.blk.tx
def wayR (se : Sl Evt) (conn : List Evt) : Res := star (rowR 219 103 Evt.c se :: conn.map txRow)
def WayPost (l : Ents) (a c : List Id) (w0 : World) (e : Ending) (w' : World) : Prop :=
  ∃ (se : Sl Evt) (conn : List Evt), e = .returned (.tuple #[se.v, .bool (wayI a c).isSome]) ∧ se.l = (wayB a c).map evD ++ conn ∧ conn.map evT = (wayF a c).reverse.map (evC l) ∧ Made (wayR se conn) w0 w'
theorem wayB_len (a c : List Id) : (wayB a c).length ≤ a.length := by
  unfold wayB
  split
  · rw [List.length_take]; omega
  · simp
theorem wayF_len (a c : List Id) : (wayF a c).length ≤ c.length := by
  unfold wayF
  split
  · rw [List.length_take]; omega
  · simp
theorem split_way {a c : List Id} {w0 w' : World} {e : Ending} (h : SplitPost a c w0 e w') : ∃ (sb sc : Sl Id) (p : Nat) (x : Id), e = .returned (.tuple #[sb.v, .slice sc.A p sc.c, x.v, .bool (wayI a c).isSome]) ∧ sb.l = wayB a c ∧ sc.l.take p = wayF a c ∧ p ≤ sc.l.length ∧ sc.l.length ≤ c.length ∧
    Made (star [rowR 55 32 Id.c sb, rowR 55 32 Id.c sc]) w0 w' := by
  rcases h with ⟨hn, rfl, hc⟩ | ⟨i, p, x, sb, sc, hi, hx, hpx, hsb, hsc, rfl, hm⟩
  · refine ⟨Sl.nil, Sl.nil, 0, Id.z, by rw [wayI_no hn]; rfl, by rw [wayB, wayI_no hn]; rfl, by rw [wayF, wayI_no hn]; rfl, Nat.le_refl _, Nat.zero_le _, hc, ?_, ?_⟩
    · refine star_ok.2 ⟨fun r hr => ?_, ?_⟩
      · have : r = rowR 55 32 Id.c Sl.nil := by simpa using hr
        subst this
        exact rowR_ok.2 ⟨World.ownsRow_nil w' 0 _ _, by simp [Sl.nil]⟩
      · refine List.pairwise_cons.2 ⟨fun r _ b hb => ?_, List.pairwise_singleton _ _⟩
        have h1 := rowR_dom.1 hb
        cases h1
    · intro b hb
      obtain ⟨r, hr, hb⟩ := star_dom.1 hb
      have : r = rowR 55 32 Id.c Sl.nil := by simpa using hr
      subst this
      have h1 := rowR_dom.1 hb
      cases h1
  · refine ⟨sb, sc, p, x, by rw [wayI_at hi hx]; rfl, by rw [wayB, wayI_at hi hx]; exact hsb, by rw [wayF, wayI_at hi hx, hsc]; simp only; rw [hpx]; rfl, ?_, by rw [hsc]; exact Nat.le_refl _, hm⟩
    obtain ⟨z, hz, _⟩ := idxI_get hpx
    rw [hsc]
    exact Nat.le_of_lt (List.getElem?_eq_some_iff.1 hz).1
theorem way38_any {w0 : World} {b m : Nat} {l : Ents} (ht : TreeAt w0 b m l) (hl : l.length ≤ 100) (from_ to_ : Id) :
    Calls Try.prog 124 #[ptr b, from_.v, to_.v] w0 (WayPost l (lineT l from_) (lineT l to_) w0) := by
  have hp := Hp.start (S := N0) w0
  have u1 := Try.underlying56
  have hla := lineT_len l from_
  have hlc := lineT_len l to_
  generalize ha : lineT l from_ = a at hla
  generalize hc0 : lineT l to_ = c at hlc
  refine calls_x (args := [_, _, _]) tabOk Try.func124 Try.ntmps124 Try.results124 rfl (Nat.le_of_ble_eq_true rfl) ?_
  ((conv => whnf); repeat' ((first | ((with_reducible refine br_id ?_); first | (with_reducible (first | refine br_t ?_ | refine br_f ?_ | refine br_not ?_)) | ((with_reducible (first | refine br_dec (fun hx => ?_) (fun hx => ?_) | refine br_eq (fun hx => ?_) (fun hx => ?_) | refine br_ne (fun hx => ?_) (fun hx => ?_) | refine br_s (fun hx => ?_) (fun hx => ?_))) <;> (try (exfalso; first | omega | exact absurd hx (by assumption) | exact absurd (by assumption) hx)))) | ((with_reducible refine ar_id ?_); first | (refine ar_i64 (by omega) ?_) | (refine ar_u32 (by omega) ?_) | (refine ar_u64 (by omega) ?_) | (refine ar_u8 (by omega) ?_)) | ((with_reducible refine cn_id ?_); first | (refine cn rfl ?_) | (refine cn (by assumption) ?_) | (refine cn (by omega) ?_) | (refine cn (Chg.refl _ _) ?_)) | ((with_reducible refine ld_id ?_); first | (apply ld_hs hp; (focus ((repeat (first | exact Has.here | apply Has.there)); done)); exact rfl) | (refine ld_of (by assumption) ?_)) | ((with_reducible refine ldn_id ?_); first | (apply lda_hs hp; (focus ((repeat (first | exact Has.here | apply Has.there)); done)); exact rfl) | (apply ldn_hs hp; (focus ((repeat (first | exact Has.here | apply Has.there)); done)); exact rfl; exact rfl)) | ((with_reducible refine al_id ?_); first | (refine al_cel hp ?_; clear hp; intro bb w hp)) | ((with_reducible refine st_id ?_); first | (apply sta_hs hp; (focus ((repeat (first | exact Has.here | apply Has.there)); done)); exact rfl; exact rfl; clear hp; intro w hp; (try dsimp only [List.set] at hp)) | (apply st_hs hp; (focus ((repeat (first | exact Has.here | apply Has.there)); done)); exact rfl; exact rfl; clear hp; intro w hp; (try dsimp only [List.set] at hp))) | ((with_reducible refine gen_id ?_); first | (apply gen_build; exact rfl; exact rfl) | (apply gen_len; exact rfl; exact rfl; assumption) | (apply gen_min; exact rfl; exact rfl; exact rfl) | (apply gen_max; exact rfl; exact rfl; exact rfl) | (apply gen_ix; exact rfl; exact rfl; exact rfl; exact rfl; omega) | (apply gen_ixa; exact rfl; exact rfl; exact rfl; exact rfl; omega)) | ((with_reducible refine dr_id ?_); first | (refine dr_auto tabOk (by kernel_rfl) (by decide +kernel) ?_; (try replace hp := hp.drew)) | (refine dr_autog tabOk (by kernel_rfl) (by decide +kernel) ?_; (try replace hp := hp.drew)) | (refine dr_autot tabOk (by kernel_rfl) (by decide +kernel) ?_; (try replace hp := hp.drew))) | ((with_reducible refine fk_id ?_); first | (refine fk_mk ?_ ?_)) | ((with_reducible refine rd_id ?_); first | (apply rd_len; exact rfl; exact rfl; assumption) | (apply rd_ix; exact rfl; exact rfl; exact rfl; exact rfl; omega))) <;> (conv => whnf)))
  refine cl_of (split38_any (ht.keep hp.chg) hl from_ to_) ?_
  rw [ha, hc0]
  intro e w hsp
  obtain ⟨sb, sc, p, x0, rfl, hsb, hsc, hps, hcs, hm⟩ := split_way hsp
  clear hsp
  obtain ⟨ok, hok⟩ : ∃ ok, (wayI a c).isSome = ok := ⟨_, rfl⟩
  rw [hok]
  have hp1 := (hp.add hm).unfold
  clear hp
  have hp := hp1
  clear hp1
  dsimp only [List.cons_append, List.nil_append] at hp
  have hbl : sb.l.length ≤ 102 := by have := wayB_len a c; rw [hsb]; omega
  have hrowb := hp.row (j := 0) rfl
  have hrowc := hp.row (j := 1) rfl
  refine ⟨_, rfl, ?_⟩
  ((conv => whnf); repeat' ((first | ((with_reducible refine br_id ?_); first | (with_reducible (first | refine br_t ?_ | refine br_f ?_ | refine br_not ?_)) | ((with_reducible (first | refine br_dec (fun hx => ?_) (fun hx => ?_) | refine br_eq (fun hx => ?_) (fun hx => ?_) | refine br_ne (fun hx => ?_) (fun hx => ?_) | refine br_s (fun hx => ?_) (fun hx => ?_))) <;> (try (exfalso; first | omega | exact absurd hx (by assumption) | exact absurd (by assumption) hx)))) | ((with_reducible refine ar_id ?_); first | (refine ar_i64 (by omega) ?_) | (refine ar_u32 (by omega) ?_) | (refine ar_u64 (by omega) ?_) | (refine ar_u8 (by omega) ?_)) | ((with_reducible refine cn_id ?_); first | (refine cn rfl ?_) | (refine cn (by assumption) ?_) | (refine cn (by omega) ?_) | (refine cn (Chg.refl _ _) ?_)) | ((with_reducible refine ld_id ?_); first | (apply ld_hs hp; (focus ((repeat (first | exact Has.here | apply Has.there)); done)); exact rfl) | (refine ld_of (by assumption) ?_)) | ((with_reducible refine ldn_id ?_); first | (apply lda_hs hp; (focus ((repeat (first | exact Has.here | apply Has.there)); done)); exact rfl) | (apply ldn_hs hp; (focus ((repeat (first | exact Has.here | apply Has.there)); done)); exact rfl; exact rfl)) | ((with_reducible refine al_id ?_); first | (refine al_cel hp ?_; clear hp; intro bb w hp)) | ((with_reducible refine st_id ?_); first | (apply sta_hs hp; (focus ((repeat (first | exact Has.here | apply Has.there)); done)); exact rfl; exact rfl; clear hp; intro w hp; (try dsimp only [List.set] at hp)) | (apply st_hs hp; (focus ((repeat (first | exact Has.here | apply Has.there)); done)); exact rfl; exact rfl; clear hp; intro w hp; (try dsimp only [List.set] at hp))) | ((with_reducible refine gen_id ?_); first | (apply gen_build; exact rfl; exact rfl) | (apply gen_len; exact rfl; exact rfl; assumption) | (apply gen_min; exact rfl; exact rfl; exact rfl) | (apply gen_max; exact rfl; exact rfl; exact rfl) | (apply gen_ix; exact rfl; exact rfl; exact rfl; exact rfl; omega) | (apply gen_ixa; exact rfl; exact rfl; exact rfl; exact rfl; omega)) | ((with_reducible refine dr_id ?_); first | (refine dr_auto tabOk (by kernel_rfl) (by decide +kernel) ?_; (try replace hp := hp.drew)) | (refine dr_autog tabOk (by kernel_rfl) (by decide +kernel) ?_; (try replace hp := hp.drew)) | (refine dr_autot tabOk (by kernel_rfl) (by decide +kernel) ?_; (try replace hp := hp.drew))) | ((with_reducible refine fk_id ?_); first | (refine fk_mk ?_ ?_)) | ((with_reducible refine rd_id ?_); first | (apply rd_len; exact rfl; exact rfl; assumption) | (apply rd_ix; exact rfl; exact rfl; exact rfl; exact rfl; omega))) <;> (conv => whnf)))
  have hp0 : Hp N0 w0 w [rowR 219 103 Evt.c Sl.nil, rowR 55 32 Id.c sb, rowR 55 32 Id.c sc] :=
    (hp.sub (rs' := [rowR 55 32 Id.c sb, rowR 55 32 Id.c sc]) (List.Sublist.cons _ (List.Sublist.cons_cons _ (List.Sublist.cons_cons _ (List.nil_sublist _))))).new (Chg.refl _ _) (rowR_ok.2 ⟨World.ownsRow_nil w 0 _ _, by simp [Sl.nil]⟩) fun b hb => by have h1 := rowR_dom.1 hb; cases h1
  clear hp
  refine lp_inv (α := Nat × Sl Evt) (fun a => [(0, ptr b), (9, .slice sc.A p sc.c), (11, .bool ok), (12, a.2.v), (27, sb.v), (28, errno sb.l.length), (29, errno a.1)])
    (fun a w => a.1 ≤ sb.l.length ∧ a.2.l = (sb.l.take a.1).map evD ∧ Hp N0 w0 w [rowR 219 103 Evt.c a.2, rowR 55 32 Id.c sb, rowR 55 32 Id.c sc]) (fun a => sb.l.length - a.1) (0, Sl.nil) (by (repeat' (first | exact trivial | (refine ⟨rfl, ?_⟩)))) ⟨by omega, rfl, hp0⟩ ?_
  clear hp0
  rintro ⟨k, out⟩ e0 w ⟨hk, hout, hp⟩
  dsimp only at hk hout hp ⊢
  have hol : out.l.length = k := by rw [hout, List.length_map, List.length_take]; omega
  rcases Nat.lt_or_ge k sb.l.length with hlt | hge
  · obtain ⟨b1, o, x, hA, _, _, hxx⟩ := hrowb.has hlt
    ((conv => whnf); repeat' ((first | ((with_reducible refine br_id ?_); first | (with_reducible (first | refine br_t ?_ | refine br_f ?_ | refine br_not ?_)) | ((with_reducible (first | refine br_dec (fun hx => ?_) (fun hx => ?_) | refine br_eq (fun hx => ?_) (fun hx => ?_) | refine br_ne (fun hx => ?_) (fun hx => ?_) | refine br_s (fun hx => ?_) (fun hx => ?_))) <;> (try (exfalso; first | omega | exact absurd hx (by assumption) | exact absurd (by assumption) hx)))) | ((with_reducible refine ar_id ?_); first | (refine ar_i64 (by omega) ?_) | (refine ar_u32 (by omega) ?_) | (refine ar_u64 (by omega) ?_) | (refine ar_u8 (by omega) ?_)) | ((with_reducible refine cn_id ?_); first | (refine cn rfl ?_) | (refine cn (by assumption) ?_) | (refine cn (by omega) ?_) | (refine cn (Chg.refl _ _) ?_)) | ((with_reducible refine ld_id ?_); first | (apply ld_hs hp; (focus ((repeat (first | exact Has.here | apply Has.there)); done)); exact rfl) | (refine ld_of (by assumption) ?_)) | ((with_reducible refine ldn_id ?_); first | ((refine ldn_ownx hp 1 rfl hA k rfl hxx rfl ?_)) | (apply lda_hs hp; (focus ((repeat (first | exact Has.here | apply Has.there)); done)); exact rfl) | (apply ldn_hs hp; (focus ((repeat (first | exact Has.here | apply Has.there)); done)); exact rfl; exact rfl)) | ((with_reducible refine al_id ?_); first | (refine al_cel hp ?_; clear hp; intro bb w hp)) | ((with_reducible refine st_id ?_); first | (apply sta_hs hp; (focus ((repeat (first | exact Has.here | apply Has.there)); done)); exact rfl; exact rfl; clear hp; intro w hp; (try dsimp only [List.set] at hp)) | (apply st_hs hp; (focus ((repeat (first | exact Has.here | apply Has.there)); done)); exact rfl; exact rfl; clear hp; intro w hp; (try dsimp only [List.set] at hp))) | ((with_reducible refine gen_id ?_); first | ((refine gen_ixs rfl rfl hA rfl rfl (by omega) ?_)) | ((refine gen_build (t := 219) (out := (evD x).c) rfl (by kernel_rfl) ?_)) | ((refine gen_bs rfl hp el_evt Evt.c [evD x] [(evD x).v] rfl rfl rfl (fun _ hh => by simp at hh; subst hh; rfl) (by omega) ?_); clear hp; intro br w hp) | ((refine gen_app (s := out) rfl hp 2 rfl el_evt rfl ⟨some ⟨br, 0, none⟩, 1, [evD x]⟩ rfl (hp.row (j := 0) rfl) (fun _ _ => rfl) evtL_one (by simp only [List.length_singleton]; omega) (by simp only [maxLen, List.length_singleton]; omega) ?_); clear hp; intro A2 c2 w hp; dsimp only [List.set] at hp) | ((refine gen_app (s := out) rfl hp 1 rfl el_evt rfl ⟨some ⟨br, 0, none⟩, 1, [evD x]⟩ rfl (hp.row (j := 0) rfl) (fun _ _ => rfl) evtL_one (by simp only [List.length_singleton]; omega) (by simp only [maxLen, List.length_singleton]; omega) ?_); clear hp; intro A2 c2 w hp; dsimp only [List.set] at hp) | (apply gen_build; exact rfl; exact rfl) | (apply gen_len; exact rfl; exact rfl; assumption) | (apply gen_min; exact rfl; exact rfl; exact rfl) | (apply gen_max; exact rfl; exact rfl; exact rfl) | (apply gen_ix; exact rfl; exact rfl; exact rfl; exact rfl; omega) | (apply gen_ixa; exact rfl; exact rfl; exact rfl; exact rfl; omega)) | ((with_reducible refine dr_id ?_); first | (refine dr_auto tabOk (by kernel_rfl) (by decide +kernel) ?_; (try replace hp := hp.drew)) | (refine dr_autog tabOk (by kernel_rfl) (by decide +kernel) ?_; (try replace hp := hp.drew)) | (refine dr_autot tabOk (by kernel_rfl) (by decide +kernel) ?_; (try replace hp := hp.drew))) | ((with_reducible refine fk_id ?_); first | (refine fk_mk ?_ ?_)) | ((with_reducible refine rd_id ?_); first | (apply rd_len; exact rfl; exact rfl; assumption) | (apply rd_ix; exact rfl; exact rfl; exact rfl; exact rfl; omega))) <;> (conv => whnf)))
    refine lp_next (k + 1, ⟨A2, c2, out.l ++ [evD x]⟩) ?_ (by (repeat' (first | exact trivial | (refine ⟨rfl, ?_⟩)))) ⟨by show k + 1 ≤ _; omega, ?_, hp.sub (List.Sublist.cons _ (List.Sublist.cons _ (.refl _)))⟩
    · show sb.l.length - (k + 1) < sb.l.length - k; omega
    · show out.l ++ [evD x] = (sb.l.take (k + 1)).map evD
      rw [List.take_add_one, hxx, hout, List.map_append]
      rfl
  · ((conv => whnf); repeat' ((first | ((with_reducible refine br_id ?_); first | (with_reducible (first | refine br_t ?_ | refine br_f ?_ | refine br_not ?_)) | ((with_reducible (first | refine br_dec (fun hx => ?_) (fun hx => ?_) | refine br_eq (fun hx => ?_) (fun hx => ?_) | refine br_ne (fun hx => ?_) (fun hx => ?_) | refine br_s (fun hx => ?_) (fun hx => ?_))) <;> (try (exfalso; first | omega | exact absurd hx (by assumption) | exact absurd (by assumption) hx)))) | ((with_reducible refine ar_id ?_); first | (refine ar_i64 (by omega) ?_) | (refine ar_u32 (by omega) ?_) | (refine ar_u64 (by omega) ?_) | (refine ar_u8 (by omega) ?_)) | ((with_reducible refine cn_id ?_); first | (refine cn rfl ?_) | (refine cn (by assumption) ?_) | (refine cn (by omega) ?_) | (refine cn (Chg.refl _ _) ?_)) | ((with_reducible refine ld_id ?_); first | (apply ld_hs hp; (focus ((repeat (first | exact Has.here | apply Has.there)); done)); exact rfl) | (refine ld_of (by assumption) ?_)) | ((with_reducible refine ldn_id ?_); first | (apply lda_hs hp; (focus ((repeat (first | exact Has.here | apply Has.there)); done)); exact rfl) | (apply ldn_hs hp; (focus ((repeat (first | exact Has.here | apply Has.there)); done)); exact rfl; exact rfl)) | ((with_reducible refine al_id ?_); first | (refine al_cel hp ?_; clear hp; intro bb w hp)) | ((with_reducible refine st_id ?_); first | (apply sta_hs hp; (focus ((repeat (first | exact Has.here | apply Has.there)); done)); exact rfl; exact rfl; clear hp; intro w hp; (try dsimp only [List.set] at hp)) | (apply st_hs hp; (focus ((repeat (first | exact Has.here | apply Has.there)); done)); exact rfl; exact rfl; clear hp; intro w hp; (try dsimp only [List.set] at hp))) | ((with_reducible refine gen_id ?_); first | (apply gen_build; exact rfl; exact rfl) | (apply gen_len; exact rfl; exact rfl; assumption) | (apply gen_min; exact rfl; exact rfl; exact rfl) | (apply gen_max; exact rfl; exact rfl; exact rfl) | (apply gen_ix; exact rfl; exact rfl; exact rfl; exact rfl; omega) | (apply gen_ixa; exact rfl; exact rfl; exact rfl; exact rfl; omega)) | ((with_reducible refine dr_id ?_); first | (refine dr_auto tabOk (by kernel_rfl) (by decide +kernel) ?_; (try replace hp := hp.drew)) | (refine dr_autog tabOk (by kernel_rfl) (by decide +kernel) ?_; (try replace hp := hp.drew)) | (refine dr_autot tabOk (by kernel_rfl) (by decide +kernel) ?_; (try replace hp := hp.drew))) | ((with_reducible refine fk_id ?_); first | (refine fk_mk ?_ ?_)) | ((with_reducible refine rd_id ?_); first | (apply rd_len; exact rfl; exact rfl; assumption) | (apply rd_ix; exact rfl; exact rfl; exact rfl; exact rfl; omega))) <;> (conv => whnf)))
    rw [List.take_of_length_le hge] at hout
    replace hp : Hp N0 w0 w (rowR 219 103 Evt.c out :: rowR 55 32 Id.c sc :: ([] : List Evt).map txRow) := hp.sub (List.Sublist.cons_cons _ (List.Sublist.cons _ (.refl _)))
    have hout0 : out.l = sb.l.map evD ++ [] := by rw [List.append_nil]; exact hout
    refine lp_inv (α := Nat × Sl Evt × List Evt) (fun a => [(0, ptr b), (9, .slice sc.A p sc.c), (11, .bool ok), (12, a.2.1.v), (40, errno p), (41, errno a.1)])
      (fun a w => a.1 ≤ p ∧ a.2.2.length = a.1 ∧ a.2.1.l = sb.l.map evD ++ a.2.2 ∧ a.2.2.map evT = ((sc.l.take p).reverse.take a.1).map (evC l) ∧ Hp N0 w0 w (rowR 219 103 Evt.c a.2.1 :: rowR 55 32 Id.c sc :: a.2.2.map txRow)) (fun a => p - a.1) (0, out, []) (by (repeat' (first | exact trivial | (refine ⟨rfl, ?_⟩)))) ⟨by omega, rfl, hout0, rfl, hp⟩ ?_
    clear hp hout0 hout hol hx
    rintro ⟨q, out, conn⟩ e1 w ⟨hq, hcl, hout, hcn, hp⟩
    dsimp only at hq hcl hout hcn hp ⊢
    have hol : out.l.length = sb.l.length + q := by rw [hout, List.length_append, List.length_map, hcl]
    rcases Nat.lt_or_ge q p with hlt | hge2
    · have hgi : p - 1 - q < sc.l.length := by omega
      have hyy0 : sc.l[p - 1 - q]? = some sc.l[p - 1 - q] := List.getElem?_eq_getElem hgi
      generalize sc.l[p - 1 - q] = y at hyy0
      have hyy : sc.l[((p : Int) - 1 - q).toNat]? = some y := by rw [show ((p : Int) - 1 - q).toNat = p - 1 - q by omega]; exact hyy0
      obtain ⟨b1, o, _, hA, _, _, _⟩ := hrowc.has hgi
      ((conv => whnf); repeat' ((first | ((with_reducible refine br_id ?_); first | (with_reducible (first | refine br_t ?_ | refine br_f ?_ | refine br_not ?_)) | ((with_reducible (first | refine br_dec (fun hx => ?_) (fun hx => ?_) | refine br_eq (fun hx => ?_) (fun hx => ?_) | refine br_ne (fun hx => ?_) (fun hx => ?_) | refine br_s (fun hx => ?_) (fun hx => ?_))) <;> (try (exfalso; first | omega | exact absurd hx (by assumption) | exact absurd (by assumption) hx)))) | ((with_reducible refine ar_id ?_); first | (refine ar_i64 (by omega) ?_) | (refine ar_u32 (by omega) ?_) | (refine ar_u64 (by omega) ?_) | (refine ar_u8 (by omega) ?_)) | ((with_reducible refine cn_id ?_); first | (refine cn rfl ?_) | (refine cn (by assumption) ?_) | (refine cn (by omega) ?_) | (refine cn (Chg.refl _ _) ?_)) | ((with_reducible refine ld_id ?_); first | (apply ld_hs hp; (focus ((repeat (first | exact Has.here | apply Has.there)); done)); exact rfl) | (refine ld_of (by assumption) ?_)) | ((with_reducible refine ldn_id ?_); first | ((refine ldn_ownx hp 1 rfl hA ((p : Int) - 1 - q).toNat rfl hyy rfl ?_)) | (apply lda_hs hp; (focus ((repeat (first | exact Has.here | apply Has.there)); done)); exact rfl) | (apply ldn_hs hp; (focus ((repeat (first | exact Has.here | apply Has.there)); done)); exact rfl; exact rfl)) | ((with_reducible refine al_id ?_); first | (refine al_cel hp ?_; clear hp; intro bb w hp)) | ((with_reducible refine st_id ?_); first | (apply sta_hs hp; (focus ((repeat (first | exact Has.here | apply Has.there)); done)); exact rfl; exact rfl; clear hp; intro w hp; (try dsimp only [List.set] at hp)) | (apply st_hs hp; (focus ((repeat (first | exact Has.here | apply Has.there)); done)); exact rfl; exact rfl; clear hp; intro w hp; (try dsimp only [List.set] at hp))) | ((with_reducible refine gen_id ?_); first | ((refine gen_ixs (q := (p : Int) - 1 - q) rfl rfl hA rfl rfl (by omega) ?_)) | (apply gen_build; exact rfl; exact rfl) | (apply gen_len; exact rfl; exact rfl; assumption) | (apply gen_min; exact rfl; exact rfl; exact rfl) | (apply gen_max; exact rfl; exact rfl; exact rfl) | (apply gen_ix; exact rfl; exact rfl; exact rfl; exact rfl; omega) | (apply gen_ixa; exact rfl; exact rfl; exact rfl; exact rfl; omega)) | ((with_reducible refine dr_id ?_); first | (refine dr_auto tabOk (by kernel_rfl) (by decide +kernel) ?_; (try replace hp := hp.drew)) | (refine dr_autog tabOk (by kernel_rfl) (by decide +kernel) ?_; (try replace hp := hp.drew)) | (refine dr_autot tabOk (by kernel_rfl) (by decide +kernel) ?_; (try replace hp := hp.drew))) | ((with_reducible refine fk_id ?_); first | (refine fk_mk ?_ ?_)) | ((with_reducible refine rd_id ?_); first | (apply rd_len; exact rfl; exact rfl; assumption) | (apply rd_ix; exact rfl; exact rfl; exact rfl; exact rfl; omega))) <;> (conv => whnf)))
      refine cl_of (get38_any (ht.keep hp.chg) y) ?_
      rintro e w ⟨sg, hsg, rfl, hm⟩
      replace hp := hp.add hm
      refine ⟨_, rfl, ?_⟩
      ((conv => whnf); repeat' ((first | ((with_reducible refine br_id ?_); first | (with_reducible (first | refine br_t ?_ | refine br_f ?_ | refine br_not ?_)) | ((with_reducible (first | refine br_dec (fun hx => ?_) (fun hx => ?_) | refine br_eq (fun hx => ?_) (fun hx => ?_) | refine br_ne (fun hx => ?_) (fun hx => ?_) | refine br_s (fun hx => ?_) (fun hx => ?_))) <;> (try (exfalso; first | omega | exact absurd hx (by assumption) | exact absurd (by assumption) hx)))) | ((with_reducible refine ar_id ?_); first | (refine ar_i64 (by omega) ?_) | (refine ar_u32 (by omega) ?_) | (refine ar_u64 (by omega) ?_) | (refine ar_u8 (by omega) ?_)) | ((with_reducible refine cn_id ?_); first | (refine cn rfl ?_) | (refine cn (by assumption) ?_) | (refine cn (by omega) ?_) | (refine cn (Chg.refl _ _) ?_)) | ((with_reducible refine ld_id ?_); first | (apply ld_hs hp; (focus ((repeat (first | exact Has.here | apply Has.there)); done)); exact rfl) | (refine ld_of (by assumption) ?_)) | ((with_reducible refine ldn_id ?_); first | (apply lda_hs hp; (focus ((repeat (first | exact Has.here | apply Has.there)); done)); exact rfl) | (apply ldn_hs hp; (focus ((repeat (first | exact Has.here | apply Has.there)); done)); exact rfl; exact rfl)) | ((with_reducible refine al_id ?_); first | (refine al_cel hp ?_; clear hp; intro bb w hp)) | ((with_reducible refine st_id ?_); first | (apply sta_hs hp; (focus ((repeat (first | exact Has.here | apply Has.there)); done)); exact rfl; exact rfl; clear hp; intro w hp; (try dsimp only [List.set] at hp)) | (apply st_hs hp; (focus ((repeat (first | exact Has.here | apply Has.there)); done)); exact rfl; exact rfl; clear hp; intro w hp; (try dsimp only [List.set] at hp))) | ((with_reducible refine gen_id ?_); first | ((refine gen_build (t := 219) (out := (Evt.mk 2 { ((mlk l y).getD Blk.z) with tx := sg } Id.z).c) rfl (by kernel_rfl) ?_)) | ((refine gen_bs rfl hp el_evt Evt.c [Evt.mk 2 { ((mlk l y).getD Blk.z) with tx := sg } Id.z] [(Evt.mk 2 { ((mlk l y).getD Blk.z) with tx := sg } Id.z).v] rfl rfl rfl (fun _ hh => by simp at hh; subst hh; rfl) (by omega) ?_); clear hp; intro br w hp) | ((refine gen_app (s := out) rfl hp 3 rfl el_evt rfl ⟨some ⟨br, 0, none⟩, 1, [Evt.mk 2 { ((mlk l y).getD Blk.z) with tx := sg } Id.z]⟩ rfl (hp.row (j := 0) rfl) (fun _ _ => rfl) evtL_one (by simp only [List.length_singleton]; omega) (by simp only [maxLen, List.length_singleton]; omega) ?_); clear hp; intro A2 c2 w hp; dsimp only [List.set] at hp) | (apply gen_build; exact rfl; exact rfl) | (apply gen_len; exact rfl; exact rfl; assumption) | (apply gen_min; exact rfl; exact rfl; exact rfl) | (apply gen_max; exact rfl; exact rfl; exact rfl) | (apply gen_ix; exact rfl; exact rfl; exact rfl; exact rfl; omega) | (apply gen_ixa; exact rfl; exact rfl; exact rfl; exact rfl; omega)) | ((with_reducible refine dr_id ?_); first | (refine dr_auto tabOk (by kernel_rfl) (by decide +kernel) ?_; (try replace hp := hp.drew)) | (refine dr_autog tabOk (by kernel_rfl) (by decide +kernel) ?_; (try replace hp := hp.drew)) | (refine dr_autot tabOk (by kernel_rfl) (by decide +kernel) ?_; (try replace hp := hp.drew))) | ((with_reducible refine fk_id ?_); first | (refine fk_mk ?_ ?_)) | ((with_reducible refine rd_id ?_); first | (apply rd_len; exact rfl; exact rfl; assumption) | (apply rd_ix; exact rfl; exact rfl; exact rfl; exact rfl; omega))) <;> (conv => whnf)))
      have hrev : (sc.l.take p).reverse[q]? = some y := by
        have hl1 : (sc.l.take p).length = p := by rw [List.length_take]; omega
        rw [List.getElem?_reverse (by omega), hl1, List.getElem?_take_of_lt (by omega)]
        exact hyy0
      have hp2 : Hp N0 w0 w (txRow (Evt.mk 2 { ((mlk l y).getD Blk.z) with tx := sg } Id.z) :: rowR 219 103 Evt.c ⟨A2, c2, out.l ++ [Evt.mk 2 { ((mlk l y).getD Blk.z) with tx := sg } Id.z]⟩ :: rowR 55 32 Id.c sc :: conn.map txRow) :=
        hp.sub (List.Sublist.cons _ (List.Sublist.cons _ (.refl _)))
      refine lp_next (q + 1, ⟨A2, c2, out.l ++ [Evt.mk 2 { ((mlk l y).getD Blk.z) with tx := sg } Id.z]⟩, conn ++ [Evt.mk 2 { ((mlk l y).getD Blk.z) with tx := sg } Id.z]) ?_ (by (repeat' (first | exact trivial | (refine ⟨rfl, ?_⟩)))) ⟨by show q + 1 ≤ _; omega, ?_, ?_, ?_, hp2.perm ?_⟩
      · show p - (q + 1) < p - q; omega
      · show (conn ++ _).length = q + 1
        rw [List.length_append, hcl]
        rfl
      · show out.l ++ _ = sb.l.map evD ++ (conn ++ _)
        rw [hout, List.append_assoc]
      · show (conn ++ _).map evT = ((sc.l.take p).reverse.take (q + 1)).map (evC l)
        rw [List.take_add_one, hrev, List.map_append, List.map_append, hcn]
        simp [hsg]
      · rw [List.map_append]
        exact (List.perm_append_comm (l₁ := [txRow (Evt.mk 2 { ((mlk l y).getD Blk.z) with tx := sg } Id.z)]) (l₂ := rowR 219 103 Evt.c ⟨A2, c2, out.l ++ [Evt.mk 2 { ((mlk l y).getD Blk.z) with tx := sg } Id.z]⟩ :: rowR 55 32 Id.c sc :: conn.map txRow))
    · ((conv => whnf); repeat' ((first | ((with_reducible refine br_id ?_); first | (with_reducible (first | refine br_t ?_ | refine br_f ?_ | refine br_not ?_)) | ((with_reducible (first | refine br_dec (fun hx => ?_) (fun hx => ?_) | refine br_eq (fun hx => ?_) (fun hx => ?_) | refine br_ne (fun hx => ?_) (fun hx => ?_) | refine br_s (fun hx => ?_) (fun hx => ?_))) <;> (try (exfalso; first | omega | exact absurd hx (by assumption) | exact absurd (by assumption) hx)))) | ((with_reducible refine ar_id ?_); first | (refine ar_i64 (by omega) ?_) | (refine ar_u32 (by omega) ?_) | (refine ar_u64 (by omega) ?_) | (refine ar_u8 (by omega) ?_)) | ((with_reducible refine cn_id ?_); first | (refine cn rfl ?_) | (refine cn (by assumption) ?_) | (refine cn (by omega) ?_) | (refine cn (Chg.refl _ _) ?_)) | ((with_reducible refine ld_id ?_); first | (apply ld_hs hp; (focus ((repeat (first | exact Has.here | apply Has.there)); done)); exact rfl) | (refine ld_of (by assumption) ?_)) | ((with_reducible refine ldn_id ?_); first | (apply lda_hs hp; (focus ((repeat (first | exact Has.here | apply Has.there)); done)); exact rfl) | (apply ldn_hs hp; (focus ((repeat (first | exact Has.here | apply Has.there)); done)); exact rfl; exact rfl)) | ((with_reducible refine al_id ?_); first | (refine al_cel hp ?_; clear hp; intro bb w hp)) | ((with_reducible refine st_id ?_); first | (apply sta_hs hp; (focus ((repeat (first | exact Has.here | apply Has.there)); done)); exact rfl; exact rfl; clear hp; intro w hp; (try dsimp only [List.set] at hp)) | (apply st_hs hp; (focus ((repeat (first | exact Has.here | apply Has.there)); done)); exact rfl; exact rfl; clear hp; intro w hp; (try dsimp only [List.set] at hp))) | ((with_reducible refine gen_id ?_); first | (apply gen_build; exact rfl; exact rfl) | (apply gen_len; exact rfl; exact rfl; assumption) | (apply gen_min; exact rfl; exact rfl; exact rfl) | (apply gen_max; exact rfl; exact rfl; exact rfl) | (apply gen_ix; exact rfl; exact rfl; exact rfl; exact rfl; omega) | (apply gen_ixa; exact rfl; exact rfl; exact rfl; exact rfl; omega)) | ((with_reducible refine dr_id ?_); first | (refine dr_auto tabOk (by kernel_rfl) (by decide +kernel) ?_; (try replace hp := hp.drew)) | (refine dr_autog tabOk (by kernel_rfl) (by decide +kernel) ?_; (try replace hp := hp.drew)) | (refine dr_autot tabOk (by kernel_rfl) (by decide +kernel) ?_; (try replace hp := hp.drew))) | ((with_reducible refine fk_id ?_); first | (refine fk_mk ?_ ?_)) | ((with_reducible refine rd_id ?_); first | (apply rd_len; exact rfl; exact rfl; assumption) | (apply rd_ix; exact rfl; exact rfl; exact rfl; exact rfl; omega))) <;> (conv => whnf)))
      have hl1 : (sc.l.take p).reverse.length ≤ q := by rw [List.length_reverse, List.length_take]; omega
      rw [List.take_of_length_le hl1, hsc] at hcn
      refine ps_val (v' := .tuple #[out.v, .bool ok]) rfl ⟨out, conn, by rw [hok], by rw [← hsb]; exact hout, hcn, ?_⟩
      exact hp.made (List.Sublist.cons_cons _ (List.Sublist.cons _ (.refl _)))

/-! ## The document's way -/
theorem idxI_first {α : Type} {p : α → Bool} : ∀ {l : List α} {i : Nat}, idxI p l = i → ∀ y ∈ l.take i, p y = false
  | [], _, _, y, hy => by simp at hy
  | x :: l, i, h, y, hy => by
    rw [idxI_cons] at h
    split at h
    · obtain rfl : i = 0 := by omega
      simp at hy
    · rename_i hx
      split at h
      · obtain ⟨j, hj⟩ : ∃ j : Nat, idxI p l = j := ⟨(idxI p l).toNat, by omega⟩
        obtain rfl : i = j + 1 := by omega
        rw [List.take_succ_cons] at hy
        rcases List.mem_cons.1 hy with rfl | hy
        · simpa using hx
        · exact idxI_first hj y hy
      · omega
theorem wayI_in {a c : List Id} {i : Nat} {x : Id} (h : wayI a c = some (i, x)) : inter a c = i ∧ a[i]? = some x ∧ x ∈ c := by
  unfold wayI at h
  cases hi : idxI (fun x => decide (x ∈ c)) a with
  | ofNat j =>
    rw [hi] at h
    simp only [Option.some.injEq, Prod.mk.injEq] at h
    obtain ⟨rfl, rfl⟩ := h
    obtain ⟨z, hz, hzc⟩ := idxI_get (i := j) hi
    exact ⟨hi, by rw [hz]; rfl, by rw [hz]; simpa using hzc⟩
  | negSucc j =>
    rw [hi] at h
    cases h
/-- what is told of a connected block -/
abbrev blT (e : Blk) : Id × Id × List Id := (e.hash, e.parent, e.tx.l)
abbrev blC (bs : List Blk) (y : Id) : Blk := ((bs[(fnd bs y).toNat]?).getD Blk.z)
def RefWayPost (bs : List Blk) (a c : List Id) (w0 : World) (e : Ending) (w' : World) : Prop :=
  ∃ (sb : Sl Id) (nb : Nat) (sf : Sl Blk), e = .returned (.tuple #[.slice sb.A nb sb.c, sf.v, .bool (wayI a c).isSome]) ∧ nb ≤ sb.l.length ∧ sb.l.take nb = wayB a c ∧ sf.l = (wayF a c).reverse.map (blC bs) ∧ Made (star [rowR 55 32 Id.c sb, rowR 58 65 Blk.c sf]) w0 w'
end Go.Proofs.Ythcapeihhldpcaa
