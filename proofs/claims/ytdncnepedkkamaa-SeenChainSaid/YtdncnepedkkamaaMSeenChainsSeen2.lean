/- Seen2: an index of package seen: Pop, Shift. -/
import Derived.Test.YtdncnepedkkamaaMSeenChain21
import Derived.Test.YtdncnepedkkamaaMSeenChain10
namespace Go.Proofs.Ytdncnepedkkamaa
set_option linter.unusedSimpArgs false
set_option linter.unusedVariables false
open Go.RowKit
set_option maxRecDepth 100000
set_option maxHeartbeats 2000000
theorem el_blkS : ElT Try.prog 58 65 65 88 := elt_of (z := Blk.v ⟨Id.z, Id.z, Sl.nil⟩) Try.underlying58 (by kernel_rfl) rfl (by omega)
theorem SlAt.rowOf {α : Type} {B : Nat} {w : World} {enc : α → List Value} {sz b o : Nat} {s : Sl α} (h : SlAt B w enc sz s) (hA : s.A = some ⟨b, o, none⟩) (hne : s.l ≠ []) : RowAt w enc sz b o s.l := by
  obtain ⟨b2, o2, h2, _, h4⟩ := h.row hne
  rw [hA] at h2
  cases h2
  exact h4
theorem blk_oneS {l : List Blk} : ∀ x ∈ l, ∀ u ∈ Blk.c x, u.oneCell' = true := fun x _ u hu => by
  have h1 : Blk.c x = x.hash.c ++ (x.parent.c ++ [x.tx.v]) := rfl
  rw [h1] at hu
  rcases List.mem_append.1 hu with hu | hu
  · exact idL_one (l := [x.hash]) x.hash (by simp) u hu
  rcases List.mem_append.1 hu with hu | hu
  · exact idL_one (l := [x.parent]) x.parent (by simp) u hu
  · simp at hu; subst hu; rfl
/-- s[:h:h] -/
theorem gen_cuth3 {α : Type} {P : Program} {w : World} {ρ : Operand → Value} {o : Oper} {g : Value → World → Prop} {t e : TypeId} {sz bytes : Nat} {x hi mx : Operand} (hop : o.op = .slice t x none (some hi) (some mx)) (hE : ElT P t e sz bytes) (s : Sl α) (hx : ρ x = s.v) (hc : s.l.length ≤ s.c) {kh km : IntKind} {zh zm : Int} (hh : ρ hi = .int kh zh) (hm : ρ mx = .int km zm) {k : Nat} (eh : zh = k) (em : zm = k) (hk1 : k ≤ s.l.length)
    (hk : g (Sl.v (α := α) ⟨s.A, k, s.l.take k⟩) w) : Gen P ρ o w g := by
  subst eh em
  obtain ⟨ht, i, z, hi', _, hs, _⟩ := hE
  have hv : Sl.v (α := α) ⟨s.A, k, s.l.take k⟩ = .slice s.A k k := by
    rw [Sl.v]
    show Value.slice s.A (s.l.take k).length k = _
    rw [List.length_take, Nat.min_eq_left hk1]
  rw [hv] at hk
  refine gen_v (v := .slice s.A k k) (w' := w) ?_ hk
  have b1 : (0 : Int) ≤ (k : Int) ∧ (k : Int) ≤ (s.c : Int) := by omega
  have b2 : (0 : Int) ≤ (k : Int) ∧ (k : Int) ≤ (k : Int) := by omega
  simp only [execOp, hop, hx, Sl.v, Option.map_some, Option.map_none, hh, hm, Instr.sliceAt, Instr.slice, Sem.run_bind, run_underlying ht, Result.andThen_ok, Instr.sliceBounds, Instr.sliceBound, asIntOf, Sem.run_pure, if_pos b1, if_pos b2, Int.toNat_natCast, Option.isSome_some, if_true, sizeOf, typeInfo, hi', hs]
  cases hA : s.A <;> simp [hi', Sem.run, hs, add_plain] <;> (intros; simp [Addr.add])
theorem spop_any {w0 : World} {b : Nat} {X : Snx} (h : (star (snRs b X)).ok w0) {ht : UInt32} {Bs : List Blk} {B : Blk} (hbs : X.bs.l = Bs ++ [B]) (hht : (X.low.toNat : Int) + (Bs.length : Nat) = ht.toNat) {C : Nat} (hB : SlOut (star (snRs b X)).dom C w0 Id.c 32 B.tx) (hd : B.tx.l.Nodup) (hn : B.tx.l.length ≤ 1000)
    (hlw : ∀ x, (idx X.lw x).l.length ≤ 100000) (hlh : ∀ k, (idx X.lh k).l.length ≤ 100000) (hnw : -900000 ≤ X.nw ∧ X.nw ≤ 900000) (hnh : -900000 ≤ X.nh ∧ X.nh ≤ 900000) (hnd : ∀ k, (idx X.lh k).l.Nodup) (hk : ∀ k y, y ∈ (idx X.lh k).l → hintOf y = k) :
    Calls Try.prog 32 #[ptr b] w0 fun e w' => e = .returned (.bool true) ∧ ∃ lw nw lh nh, StkI X ht B.tx.l B.tx.l.length lw nw lh nh ∧ Mut (star (snRs b X)) (star (snRs b { X with bs := ⟨X.bs.A, Bs.length, Bs⟩, lw := lw, nw := nw, lh := lh, nh := nh })) w0 w' := by
  have hp := Hp.open h
  have us := Try.underlying58
  have hlen : X.bs.l.length = Bs.length + 1 := by rw [hbs, List.length_append]; rfl
  have hlt := ht.toNat_lt
  have hln := fun {w : World} (hp : Hp (star (snRs b X)).dom w0 w (snRs b X)) => slen_any (snAt hp (List.Sublist.refl _))
  rw [hlen] at hln
  have hle := (hp.cutAt (j := 1) rfl).le
  have hxx : X.bs.l[Bs.length]? = some B := by rw [hbs]; simp
  obtain ⟨b1, o1, B', hA, hb1, hrow, hBB⟩ := (hp.cutAt (j := 1) rfl).has (i := Bs.length) (by omega)
  obtain rfl : B' = B := Option.some.inj (hBB.symm.trans hxx)
  refine calls_x (args := [_]) tabOk Try.func32 Try.ntmps32 Try.results32 rfl (Nat.le_of_ble_eq_true rfl) ?_
  ((conv => whnf); repeat' ((first | ((with_reducible refine br_id ?_); first | (with_reducible (first | refine br_t ?_ | refine br_f ?_ | refine br_not ?_)) | ((with_reducible (first | refine br_dec (fun hx => ?_) (fun hx => ?_) | refine br_eq (fun hx => ?_) (fun hx => ?_) | refine br_ne (fun hx => ?_) (fun hx => ?_) | refine br_s (fun hx => ?_) (fun hx => ?_))) <;> (try (exfalso; first | omega | exact absurd hx (by assumption) | exact absurd (by assumption) hx)))) | ((with_reducible refine ar_id ?_); first | (refine ar_i64 (by omega) ?_) | (refine ar_u32 (by omega) ?_) | (refine ar_u64 (by omega) ?_) | (refine ar_u8 (by omega) ?_)) | ((with_reducible refine cn_id ?_); first | (refine cn rfl ?_) | (refine cn (by assumption) ?_) | (refine cn (by omega) ?_) | (refine cn (Chg.refl _ _) ?_)) | ((with_reducible refine ld_id ?_); first | (apply ld_hs hp; (focus ((repeat (first | exact Has.here | apply Has.there)); done)); exact rfl) | (refine ld_of (by assumption) ?_)) | ((with_reducible refine ldn_id ?_); first | (apply lda_hs hp; (focus ((repeat (first | exact Has.here | apply Has.there)); done)); exact rfl) | (apply ldn_hs hp; (focus ((repeat (first | exact Has.here | apply Has.there)); done)); exact rfl; exact rfl)) | ((with_reducible refine al_id ?_); first | (refine al_cel hp ?_; clear hp; intro bb w hp)) | ((with_reducible refine st_id ?_); first | (apply sta_hs hp; (focus ((repeat (first | exact Has.here | apply Has.there)); done)); exact rfl; exact rfl; clear hp; intro w hp; (try dsimp only [List.set] at hp)) | (apply st_hs hp; (focus ((repeat (first | exact Has.here | apply Has.there)); done)); exact rfl; exact rfl; clear hp; intro w hp; (try dsimp only [List.set] at hp))) | ((with_reducible refine gen_id ?_); first | (apply gen_build; exact rfl; exact rfl) | (apply gen_len; exact rfl; exact rfl; assumption) | (apply gen_min; exact rfl; exact rfl; exact rfl) | (apply gen_max; exact rfl; exact rfl; exact rfl) | (apply gen_ix; exact rfl; exact rfl; exact rfl; exact rfl; omega) | (apply gen_ixa; exact rfl; exact rfl; exact rfl; exact rfl; omega)) | ((with_reducible refine fk_id ?_); first | (refine fk_mk ?_ ?_)) | ((with_reducible refine cl_id ?_); first | ((refine cl_eq ((hln hp)) rfl rfl ?_; rintro e w ⟨rfl, hcc⟩; replace hp := hp.call0 hcc; refine ⟨_, rfl, ?_⟩))) | ((with_reducible refine rd_id ?_); first | (apply rd_len; exact rfl; exact rfl; assumption) | (apply rd_ix; exact rfl; exact rfl; exact rfl; exact rfl; omega))) <;> (conv => whnf)))
  have hst := fun {w : World} (hc : Chg (star (snRs b X)).dom w0 w) (hp : Hp (star (snRs b X)).dom w0 w (snRs b X)) => sstrike_any (b := b) (X := X) (w0 := w) (B := B') (C := C) (hp.fold1.get (j := 0) rfl) ht ⟨hB.keep hc, hB.out⟩ hd hn hlw hlh hnw hnh hnd hk
  have hne : X.bs.l ≠ [] := by rw [hbs]; simp
  have e1 : ((Bs.length + 1 : Nat) : Int) - 1 = (Bs.length : Nat) := by omega
  refine dr_autos [] 17 tabOk (by kernel_rfl) (by decide +kernel) ?_
  replace hp := hp.drew
  ((conv => whnf); repeat' ((first | ((with_reducible refine br_id ?_); first | (with_reducible (first | refine br_t ?_ | refine br_f ?_ | refine br_not ?_)) | ((with_reducible (first | refine br_dec (fun hx => ?_) (fun hx => ?_) | refine br_eq (fun hx => ?_) (fun hx => ?_) | refine br_ne (fun hx => ?_) (fun hx => ?_) | refine br_s (fun hx => ?_) (fun hx => ?_))) <;> (try (exfalso; first | omega | exact absurd hx (by assumption) | exact absurd (by assumption) hx)))) | ((with_reducible refine ar_id ?_); first | ((refine ar_n (Bs.length) (by omega) (by omega) ?_)) | (refine ar_i64 (by omega) ?_) | (refine ar_u32 (by omega) ?_) | (refine ar_u64 (by omega) ?_) | (refine ar_u8 (by omega) ?_)) | ((with_reducible refine cn_id ?_); first | (refine cn rfl ?_) | (refine cn (by assumption) ?_) | (refine cn (by omega) ?_) | (refine cn (Chg.refl _ _) ?_)) | ((with_reducible refine ld_id ?_); first | (apply ld_hs hp; (focus ((repeat (first | exact Has.here | apply Has.there)); done)); exact rfl) | (refine ld_of (by assumption) ?_)) | ((with_reducible refine ldn_id ?_); first | ((refine ldn_rowat ((hp.cutAt (j := 1) rfl).rowOf hA hne) Bs.length 0 rfl hxx rfl rfl ?_)) | (apply lda_hs hp; (focus ((repeat (first | exact Has.here | apply Has.there)); done)); exact rfl) | (apply ldn_hs hp; (focus ((repeat (first | exact Has.here | apply Has.there)); done)); exact rfl; exact rfl)) | ((with_reducible refine al_id ?_); first | (refine al_cel hp ?_; clear hp; intro bb w hp)) | ((with_reducible refine st_id ?_); first | (apply sta_hs hp; (focus ((repeat (first | exact Has.here | apply Has.there)); done)); exact rfl; exact rfl; clear hp; intro w hp; (try dsimp only [List.set] at hp)) | (apply st_hs hp; (focus ((repeat (first | exact Has.here | apply Has.there)); done)); exact rfl; exact rfl; clear hp; intro w hp; (try dsimp only [List.set] at hp))) | ((with_reducible refine gen_id ?_); first | ((refine gen_cuth3 rfl el_blkS X.bs rfl hle rfl rfl (k := Bs.length) (by first | rfl | omega) (by first | rfl | omega) (by omega) ?_)) | (apply gen_build; exact rfl; exact rfl) | (apply gen_len; exact rfl; exact rfl; assumption) | (apply gen_min; exact rfl; exact rfl; exact rfl) | (apply gen_max; exact rfl; exact rfl; exact rfl) | (apply gen_ix; exact rfl; exact rfl; exact rfl; exact rfl; omega) | (apply gen_ixa; exact rfl; exact rfl; exact rfl; exact rfl; omega)) | ((with_reducible refine dr_id ?_); first | (refine dr_auto tabOk (by kernel_rfl) (by decide +kernel) ?_; (try replace hp := hp.drew)) | (refine dr_autog tabOk (by kernel_rfl) (by decide +kernel) ?_; (try replace hp := hp.drew)) | (refine dr_autot tabOk (by kernel_rfl) (by decide +kernel) ?_; (try replace hp := hp.drew))) | ((with_reducible refine fk_id ?_); first | (refine fk_mk ?_ ?_)) | ((with_reducible refine cl_id ?_); first | ((refine cl_eq (hst hp.chg hp) rfl (by rw [hht]; rfl) ?_; rintro e w ⟨rfl, lw, nw, lh, nh, hI, hmt⟩; replace hp := hp.fold1.via (j := 0) rfl hmt; dsimp only [List.set] at hp; replace hp := hp.unfold; rw [List.append_nil] at hp; refine ⟨_, rfl, ?_⟩))) | ((with_reducible refine rd_id ?_); first | ((refine rd_conv tabOk rfl rfl rfl rfl ?_)) | ((refine rd_ixs rfl rfl hA rfl rfl (by omega) ?_)) | (apply rd_len; exact rfl; exact rfl; assumption) | (apply rd_ix; exact rfl; exact rfl; exact rfl; exact rfl; omega))) <;> (conv => whnf)))
  have htk : X.bs.l.take Bs.length = Bs := by rw [hbs]; simp
  have hp2 := hp.cutTo (j := 1) rfl hne (k := Bs.length) (by omega)
  rw [htk] at hp2
  exact ps_val (v' := .bool true) rfl ⟨rfl, lw, nw, lh, nh, hI, hp2.shut (.refl _)⟩
theorem ar_inc {x : UInt32} {f : Int → Prop} (h : f ((x + 1).toNat : Int)) : Ar .u32 ((x.toNat : Int) + 1) f :=
  ⟨_, (by have h1 := wrap_u32 (x.toNat + 1); rw [show UInt32.ofNat (x.toNat + 1) = x + 1 from UInt32.toNat_inj.1 (by simp [UInt32.toNat_add])] at h1; exact h1), h⟩
theorem sshift_any {w0 : World} {b : Nat} {X : Snx} (h : (star (snRs b X)).ok w0) {Bs : List Blk} {B : Blk} (hbs : X.bs.l = B :: Bs) (hbn : Bs.length ≤ 100000) {C : Nat} (hB : SlOut (star (snRs b X)).dom C w0 Id.c 32 B.tx) (hd : B.tx.l.Nodup) (hn : B.tx.l.length ≤ 1000)
    (hlw : ∀ x, (idx X.lw x).l.length ≤ 100000) (hlh : ∀ k, (idx X.lh k).l.length ≤ 100000) (hnw : -900000 ≤ X.nw ∧ X.nw ≤ 900000) (hnh : -900000 ≤ X.nh ∧ X.nh ≤ 900000) (hnd : ∀ k, (idx X.lh k).l.Nodup) (hk : ∀ k y, y ∈ (idx X.lh k).l → hintOf y = k) :
    Calls Try.prog 34 #[ptr b] w0 fun e w' => e = .returned (.bool true) ∧ ∃ lw nw lh nh, ∃ s' : Sl Blk, s'.l = Bs ∧ StkI X X.low B.tx.l B.tx.l.length lw nw lh nh ∧ Mut (star (snRs b X)) (star (snRs b { X with low := X.low + 1, bs := s', lw := lw, nw := nw, lh := lh, nh := nh })) w0 w' := by
  have hp := Hp.open h
  have us := Try.underlying58
  have hlen : X.bs.l.length = Bs.length + 1 := by rw [hbs]; rfl
  have hln := fun {w : World} (hp : Hp (star (snRs b X)).dom w0 w (snRs b X)) => slen_any (snAt hp (List.Sublist.refl _))
  rw [hlen] at hln
  have hle := (hp.cutAt (j := 1) rfl).le
  have hxx : X.bs.l[0]? = some B := by rw [hbs]; rfl
  obtain ⟨b1, o1, B', hA, hb1, hrow, hBB⟩ := (hp.cutAt (j := 1) rfl).has (i := 0) (by omega)
  obtain rfl : B' = B := Option.some.inj (hBB.symm.trans hxx)
  have hne : X.bs.l ≠ [] := by rw [hbs]; simp
  have hst := fun {w : World} (hc : Chg (star (snRs b X)).dom w0 w) (hp : Hp (star (snRs b X)).dom w0 w (snRs b X)) => sstrike_any (b := b) (X := X) (w0 := w) (B := B') (C := C) (hp.fold1.get (j := 0) rfl) X.low ⟨hB.keep hc, hB.out⟩ hd hn hlw hlh hnw hnh hnd hk
  have hct : (X.bs.cut 65 1 X.bs.l.length).l = Bs := by
    show (X.bs.l.take X.bs.l.length).drop 1 = Bs
    rw [List.take_length, hbs]
    rfl
  refine calls_x (args := [_]) tabOk Try.func34 Try.ntmps34 Try.results34 rfl (Nat.le_of_ble_eq_true rfl) ?_
  ((conv => whnf); repeat' ((first | ((with_reducible refine br_id ?_); first | (with_reducible (first | refine br_t ?_ | refine br_f ?_ | refine br_not ?_)) | ((with_reducible (first | refine br_dec (fun hx => ?_) (fun hx => ?_) | refine br_eq (fun hx => ?_) (fun hx => ?_) | refine br_ne (fun hx => ?_) (fun hx => ?_) | refine br_s (fun hx => ?_) (fun hx => ?_))) <;> (try (exfalso; first | omega | exact absurd hx (by assumption) | exact absurd (by assumption) hx)))) | ((with_reducible refine ar_id ?_); first | (refine ar_i64 (by omega) ?_) | (refine ar_u32 (by omega) ?_) | (refine ar_u64 (by omega) ?_) | (refine ar_u8 (by omega) ?_)) | ((with_reducible refine cn_id ?_); first | (refine cn rfl ?_) | (refine cn (by assumption) ?_) | (refine cn (by omega) ?_) | (refine cn (Chg.refl _ _) ?_)) | ((with_reducible refine ld_id ?_); first | (apply ld_hs hp; (focus ((repeat (first | exact Has.here | apply Has.there)); done)); exact rfl) | (refine ld_of (by assumption) ?_)) | ((with_reducible refine ldn_id ?_); first | (apply lda_hs hp; (focus ((repeat (first | exact Has.here | apply Has.there)); done)); exact rfl) | (apply ldn_hs hp; (focus ((repeat (first | exact Has.here | apply Has.there)); done)); exact rfl; exact rfl)) | ((with_reducible refine al_id ?_); first | (refine al_cel hp ?_; clear hp; intro bb w hp)) | ((with_reducible refine st_id ?_); first | (apply sta_hs hp; (focus ((repeat (first | exact Has.here | apply Has.there)); done)); exact rfl; exact rfl; clear hp; intro w hp; (try dsimp only [List.set] at hp)) | (apply st_hs hp; (focus ((repeat (first | exact Has.here | apply Has.there)); done)); exact rfl; exact rfl; clear hp; intro w hp; (try dsimp only [List.set] at hp))) | ((with_reducible refine gen_id ?_); first | (apply gen_build; exact rfl; exact rfl) | (apply gen_len; exact rfl; exact rfl; assumption) | (apply gen_min; exact rfl; exact rfl; exact rfl) | (apply gen_max; exact rfl; exact rfl; exact rfl) | (apply gen_ix; exact rfl; exact rfl; exact rfl; exact rfl; omega) | (apply gen_ixa; exact rfl; exact rfl; exact rfl; exact rfl; omega)) | ((with_reducible refine fk_id ?_); first | (refine fk_mk ?_ ?_)) | ((with_reducible refine cl_id ?_); first | ((refine cl_eq ((hln hp)) rfl rfl ?_; rintro e w ⟨rfl, hcc⟩; replace hp := hp.call0 hcc; refine ⟨_, rfl, ?_⟩))) | ((with_reducible refine rd_id ?_); first | (apply rd_len; exact rfl; exact rfl; assumption) | (apply rd_ix; exact rfl; exact rfl; exact rfl; exact rfl; omega))) <;> (conv => whnf)))
  refine dr_autos [] 11 tabOk (by kernel_rfl) (by decide +kernel) ?_
  replace hp := hp.drew
  ((conv => whnf); repeat' ((first | ((with_reducible refine br_id ?_); first | (with_reducible (first | refine br_t ?_ | refine br_f ?_ | refine br_not ?_)) | ((with_reducible (first | refine br_dec (fun hx => ?_) (fun hx => ?_) | refine br_eq (fun hx => ?_) (fun hx => ?_) | refine br_ne (fun hx => ?_) (fun hx => ?_) | refine br_s (fun hx => ?_) (fun hx => ?_))) <;> (try (exfalso; first | omega | exact absurd hx (by assumption) | exact absurd (by assumption) hx)))) | ((with_reducible refine ar_id ?_); first | ((refine ar_inc ?_)) | (refine ar_i64 (by omega) ?_) | (refine ar_u32 (by omega) ?_) | (refine ar_u64 (by omega) ?_) | (refine ar_u8 (by omega) ?_)) | ((with_reducible refine cn_id ?_); first | (refine cn rfl ?_) | (refine cn (by assumption) ?_) | (refine cn (by omega) ?_) | (refine cn (Chg.refl _ _) ?_)) | ((with_reducible refine ld_id ?_); first | (apply ld_hs hp; (focus ((repeat (first | exact Has.here | apply Has.there)); done)); exact rfl) | (refine ld_of (by assumption) ?_)) | ((with_reducible refine ldn_id ?_); first | ((refine ldn_rowat ((hp.cutAt (j := 1) rfl).rowOf hA hne) 0 0 rfl hxx rfl rfl ?_)) | (apply lda_hs hp; (focus ((repeat (first | exact Has.here | apply Has.there)); done)); exact rfl) | (apply ldn_hs hp; (focus ((repeat (first | exact Has.here | apply Has.there)); done)); exact rfl; exact rfl)) | ((with_reducible refine al_id ?_); first | (refine al_cel hp ?_; clear hp; intro bb w hp)) | ((with_reducible refine st_id ?_); first | (apply sta_hs hp; (focus ((repeat (first | exact Has.here | apply Has.there)); done)); exact rfl; exact rfl; clear hp; intro w hp; (try dsimp only [List.set] at hp)) | (apply st_hs hp; (focus ((repeat (first | exact Has.here | apply Has.there)); done)); exact rfl; exact rfl; clear hp; intro w hp; (try dsimp only [List.set] at hp))) | ((with_reducible refine gen_id ?_); first | ((refine gen_cutl rfl el_blkS X.bs rfl (hp.cutAt (j := 1) rfl) rfl (l := 1) rfl (by omega) ?_)) | ((refine gen_app0 rfl hp el_blkS rfl (X.bs.cut 65 1 X.bs.l.length) rfl ((hp.cutAt (j := 1) rfl).cut (by omega) (Nat.le_refl _)) (fun _ _ => rfl) blk_oneS (by rw [hct]; omega) (by rw [hct]; simp only [maxLen]; omega) ?_); clear hp; intro A1 c1 w hcc hp) | (apply gen_build; exact rfl; exact rfl) | (apply gen_len; exact rfl; exact rfl; assumption) | (apply gen_min; exact rfl; exact rfl; exact rfl) | (apply gen_max; exact rfl; exact rfl; exact rfl) | (apply gen_ix; exact rfl; exact rfl; exact rfl; exact rfl; omega) | (apply gen_ixa; exact rfl; exact rfl; exact rfl; exact rfl; omega)) | ((with_reducible refine dr_id ?_); first | (refine dr_auto tabOk (by kernel_rfl) (by decide +kernel) ?_; (try replace hp := hp.drew)) | (refine dr_autog tabOk (by kernel_rfl) (by decide +kernel) ?_; (try replace hp := hp.drew)) | (refine dr_autot tabOk (by kernel_rfl) (by decide +kernel) ?_; (try replace hp := hp.drew))) | ((with_reducible refine fk_id ?_); first | (refine fk_mk ?_ ?_)) | ((with_reducible refine cl_id ?_); first | ((refine cl_eq (hst hp.chg hp) rfl rfl ?_; rintro e w ⟨rfl, lw, nw, lh, nh, hI, hmt⟩; replace hp := hp.fold1.via (j := 0) rfl hmt; dsimp only [List.set] at hp; replace hp := hp.unfold; rw [List.append_nil] at hp; refine ⟨_, rfl, ?_⟩))) | ((with_reducible refine rd_id ?_); first | ((refine rd_ixs rfl rfl hA rfl rfl (by omega) ?_)) | (apply rd_len; exact rfl; exact rfl; assumption) | (apply rd_ix; exact rfl; exact rfl; exact rfl; exact rfl; omega))) <;> (conv => whnf)))
  obtain ⟨s', hs'⟩ : ∃ s' : Sl Blk, s' = ⟨A1, c1, (X.bs.cut 65 1 X.bs.l.length).l⟩ := ⟨_, rfl⟩
  have hl' : s'.l = Bs := by rw [hs']; exact hct
  have hp2 := hp.toCut (j := 0) rfl
  rw [← hs'] at hp2
  have hv : Value.slice A1 (X.bs.cut 65 1 X.bs.l.length).l.length c1 = s'.v := by rw [hs']
  rw [hv] at hp2
  have hp3 := hp2.pick (rs' := snRs b { X with low := X.low + 1, bs := s', lw := lw, nw := nw, lh := lh, nh := nh }) [1, 0, 3, 4] (by decide) rfl
  exact ps_val (v' := .bool true) rfl ⟨rfl, lw, nw, lh, nh, s', hl', hI, hp3.shut (.refl _)⟩
end Go.Proofs.Ytdncnepedkkamaa
