/- Tips: feed.Tips: the blocks on which none stands, in order. -/
import Derived.Test.YthcapeihhldpcaaTipsP
import Derived.Test.YthcapeihhldpcaaSortF
import Derived.Test.YthcapeihhldpcaaRange
import Derived.Test.YthcapeihhldpcaaStr
import Derived.Test.YthcapeihhldpcaaSub
import Derived.Shelf.SlGeneric
import Derived.Shelf.Small.Strs
namespace Go.Proofs.Ythcapeihhldpcaa
set_option linter.unusedSimpArgs false
set_option linter.unusedVariables false
open Go.RowKit Go.Shelf Go.Lib
set_option maxRecDepth 100000
set_option maxHeartbeats 2000000

def srtI_ren : Go.Shelf.Ren := ⟨fun | 6 => 97 | 15 => 148 | 14 => 147 | 28 => 176 | 29 => 177 | 20 => 168 | 21 => 169 | 22 => 170 | 23 => 171 | 24 => 172 | 25 => 173 | 26 => 174 | 27 => 175 | 46 => 198 | 47 => 199 | 48 => 200 | 49 => 201 | 50 => 202 | 57 => 220 | n => n, fun | 22 => 56 | 24 => 55 | 25 => 156 | 3 => 3 | 39 => 205 | 0 => 0 | 53 => 27 | 55 => 146 | 4 => 4 | 46 => 231 | 45 => 230 | 50 => 235 | 5 => 5 | 9 => 9 | 66 => 255 | 70 => 259 | 76 => 276 | 77 => 277 | n => n, fun | n => n⟩
theorem srtI : Go.Proofs.SlLaysF0.n6 Try.prog srtI_ren := {
  mixed := by kernel_rfl
  f6 := ⟨Try.f97.name, by decide, Try.func97.trans (congrArg some (by kernel_rfl))⟩
  f14 := ⟨Try.f147.name, by decide, Try.func147.trans (congrArg some (by kernel_rfl))⟩
  f15 := Try.func148.trans (congrArg some (by kernel_rfl))
  f20 := ⟨Try.f168.name, by decide, Try.func168.trans (congrArg some (by kernel_rfl))⟩
  f21 := ⟨Try.f169.name, by decide, Try.func169.trans (congrArg some (by kernel_rfl))⟩
  f22 := ⟨Try.f170.name, by decide, Try.func170.trans (congrArg some (by kernel_rfl))⟩
  f23 := ⟨Try.f171.name, by decide, Try.func171.trans (congrArg some (by kernel_rfl))⟩
  f24 := ⟨Try.f172.name, by decide, Try.func172.trans (congrArg some (by kernel_rfl))⟩
  f25 := ⟨Try.f173.name, by decide, Try.func173.trans (congrArg some (by kernel_rfl))⟩
  f26 := ⟨Try.f174.name, by decide, Try.func174.trans (congrArg some (by kernel_rfl))⟩
  f27 := ⟨Try.f175.name, by decide, Try.func175.trans (congrArg some (by kernel_rfl))⟩
  f28 := Try.func176.trans (congrArg some (by kernel_rfl))
  f29 := Try.func177.trans (congrArg some (by kernel_rfl))
  f46 := ⟨Try.f198.name, by decide, Try.func198.trans (congrArg some (by kernel_rfl))⟩
  f47 := Try.func199.trans (congrArg some (by kernel_rfl))
  f48 := Try.func200.trans (congrArg some (by kernel_rfl))
  f49 := ⟨Try.f201.name, by decide, Try.func201.trans (congrArg some (by kernel_rfl))⟩
  f50 := ⟨Try.f202.name, by decide, Try.func202.trans (congrArg some (by kernel_rfl))⟩
  f57 := ⟨Try.f220.name, by decide, Try.func220.trans (congrArg some (by kernel_rfl))⟩
  t0 := Try.underlying0
  a0 := Try.isAgg0
  z0 := Try.sizeOf0
  v0 := Try.zeroValue0
  t3 := Try.underlying3
  a3 := Try.isAgg3
  z3 := Try.sizeOf3
  v3 := Try.zeroValue3
  t4 := Try.underlying4
  a4 := Try.isAgg4
  z4 := Try.sizeOf4
  v4 := Try.zeroValue4
  t5 := Try.underlying5
  a5 := Try.isAgg5
  z5 := Try.sizeOf5
  v5 := Try.zeroValue5
  t9 := Try.underlying9
  a9 := Try.isAgg9
  z9 := Try.sizeOf9
  v9 := Try.zeroValue9
  t22 := Try.underlying56
  a22 := Try.isAgg56
  z22 := Try.sizeOf56
  v22 := Try.zeroValue56
  t25 := Try.underlying156
  a25 := Try.isAgg156
  z25 := Try.sizeOf156
  v25 := Try.zeroValue156
  t39 := Try.underlying205
  a39 := Try.isAgg205
  z39 := Try.sizeOf205
  v39 := Try.zeroValue205
  t45 := Try.underlying230
  a45 := Try.isAgg230
  z45 := Try.sizeOf230
  v45 := Try.zeroValue230
  t46 := Try.underlying231
  a46 := Try.isAgg231
  z46 := Try.sizeOf231
  v46 := Try.zeroValue231
  t50 := Try.underlying235
  a50 := Try.isAgg235
  z50 := Try.sizeOf235
  v50 := Try.zeroValue235
  t53 := Try.underlying27
  a53 := Try.isAgg27
  z53 := Try.sizeOf27
  v53 := Try.zeroValue27
  t55 := Try.underlying146
  a55 := Try.isAgg146
  z55 := Try.sizeOf146
  v55 := Try.zeroValue146
  t66 := Try.underlying255
  a66 := Try.isAgg255
  z66 := Try.sizeOf255
  v66 := Try.zeroValue255
  t70 := Try.underlying259
  a70 := Try.isAgg259
  z70 := Try.sizeOf259
  v70 := Try.zeroValue259
  t76 := Try.underlying276
  a76 := Try.isAgg276
  z76 := Try.sizeOf276
  v76 := Try.zeroValue276
  t77 := Try.underlying277
  a77 := Try.isAgg277
  z77 := Try.sizeOf277
  v77 := Try.zeroValue277 }
def scmpL_ren : Go.Shelf.Ren := ⟨fun | 106 => 129 | 213 => 160 | 265 => 186 | n => n, fun | 9 => 9 | 3 => 3 | n => n, fun | n => n⟩
theorem scmpL : Go.Proofs.Lays.n106 Try.prog scmpL_ren := {
  mixed := by kernel_rfl
  f106 := Try.func129.trans (congrArg some (by kernel_rfl))
  f213 := Try.func160.trans (congrArg some (by kernel_rfl))
  f265 := Try.func186.trans (congrArg some (by kernel_rfl))
  t3 := Try.underlying3
  a3 := Try.isAgg3
  z3 := Try.sizeOf3
  v3 := Try.zeroValue3
  t9 := Try.underlying9
  a9 := Try.isAgg9
  z9 := Try.sizeOf9
  v9 := Try.zeroValue9 }
instance : Inhabited Id := ⟨Id.z⟩
theorem ltId (x y : Id) : ltOf cmpId x y = idLt x y := rfl
theorem swoId : Sort.SWO (ltOf cmpId) where
  irrefl x := idLt_irrefl x
  trans x y z h1 h2 := idLt_trans h1 h2
  ntrans x y z h1 h2 := idLt_ntrans h1 h2
theorem scmp_any {w0 : World} (a b : List UInt8) : Calls Try.prog 129 #[str a, str b] w0 fun e w' => e = .returned (i64 (compareBytes a b)) ∧ Chg N0 w0 w' := by
  refine (Any.strings_Compare scmpL ⟨a.toArray⟩ ⟨b.toArray⟩ w0).mono ?_
  rintro e w' ⟨rfl, rfl⟩
  exact ⟨rfl, Chg.refl _ _⟩
theorem idflat (X : Id) : ((X.c.toArray).toList.drop 0).take (X.toList.length * 1) = X.toList.flatMap u8L := by
  have h1 : X.toList.map u8 = X.c := by
    have := congrArg Array.toList (Id.cells X)
    rw [List.toList_toArray, List.toList_toArray] at this
    exact this
  have h2 : X.toList.flatMap u8L = X.toList.map u8 := by rw [List.map_eq_flatMap]
  rw [h2, List.toList_toArray, List.drop_zero, ← h1, List.take_of_length_le (by rw [List.length_map]; omega)]
theorem cmpId_any (x y : Id) (W : World) : Calls Try.prog 128 #[x.v, y.v] W fun e w' => e = .returned (i64 (cmpId x y)) ∧ Chg N0 W w' := by
  have hp := Hp.start (S := N0) W
  have u2 := Try.underlying94
  have ua := Try.underlying55
  have uu := Try.underlying5
  have ut := Try.underlying9
  have hml : ∀ z : Id, z.toList.length ≤ maxLen := fun z => by simp [maxLen]
  refine calls_x (args := [_, _]) tabOk Try.func128 Try.ntmps128 Try.results128 rfl (Nat.le_of_ble_eq_true rfl) ?_
  ((conv => whnf); repeat' ((first | ((with_reducible refine br_id ?_); first | (with_reducible (first | refine br_t ?_ | refine br_f ?_ | refine br_not ?_)) | ((with_reducible (first | refine br_dec (fun hx => ?_) (fun hx => ?_) | refine br_eq (fun hx => ?_) (fun hx => ?_) | refine br_ne (fun hx => ?_) (fun hx => ?_) | refine br_s (fun hx => ?_) (fun hx => ?_))) <;> (try (exfalso; first | omega | exact absurd hx (by assumption) | exact absurd (by assumption) hx)))) | ((with_reducible refine ar_id ?_); first | (refine ar_i64 (by omega) ?_) | (refine ar_u32 (by omega) ?_) | (refine ar_u64 (by omega) ?_) | (refine ar_u8 (by omega) ?_)) | ((with_reducible refine cn_id ?_); first | (refine cn rfl ?_) | (refine cn (by assumption) ?_) | (refine cn (by omega) ?_) | (refine cn (Chg.refl _ _) ?_)) | ((with_reducible refine ld_id ?_); first | (apply ld_hs hp; (focus ((repeat (first | exact Has.here | apply Has.there)); done)); exact rfl) | (refine ld_of (by assumption) ?_)) | ((with_reducible refine ldn_id ?_); first | (apply lda_hs hp; (focus ((repeat (first | exact Has.here | apply Has.there)); done)); exact rfl) | (apply ldn_hs hp; (focus ((repeat (first | exact Has.here | apply Has.there)); done)); exact rfl; exact rfl)) | ((with_reducible refine al_id ?_); first | (refine al_cel hp ?_; clear hp; intro bb w hp)) | ((with_reducible refine st_id ?_); first | (apply sta_hs hp; (focus ((repeat (first | exact Has.here | apply Has.there)); done)); exact rfl; exact rfl; clear hp; intro w hp; (try dsimp only [List.set] at hp)) | (apply st_hs hp; (focus ((repeat (first | exact Has.here | apply Has.there)); done)); exact rfl; exact rfl; clear hp; intro w hp; (try dsimp only [List.set] at hp))) | ((with_reducible refine gen_id ?_); first | (apply gen_build; exact rfl; exact rfl) | (apply gen_len; exact rfl; exact rfl; assumption) | (apply gen_min; exact rfl; exact rfl; exact rfl) | (apply gen_max; exact rfl; exact rfl; exact rfl) | (apply gen_ix; exact rfl; exact rfl; exact rfl; exact rfl; omega) | (apply gen_ixa; exact rfl; exact rfl; exact rfl; exact rfl; omega)) | ((with_reducible refine fk_id ?_); first | (refine fk_mk ?_ ?_)) | ((with_reducible refine rd_id ?_); first | (apply rd_len; exact rfl; exact rfl; assumption) | (apply rd_ix; exact rfl; exact rfl; exact rfl; exact rfl; omega))) <;> (conv => whnf)))
  obtain ⟨b2, hb2⟩ : ∃ b : Nat, b = bb := ⟨_, rfl⟩
  subst hb2
  obtain ⟨b1, hb1⟩ : ∃ b : Nat, b = bb := ⟨_, rfl⟩
  subst hb1
  have hcmp := fun (w : World) => scmp_any (w0 := w) x.toList y.toList
  ((conv => whnf); repeat' ((first | ((with_reducible refine br_id ?_); first | (with_reducible (first | refine br_t ?_ | refine br_f ?_ | refine br_not ?_)) | ((with_reducible (first | refine br_dec (fun hx => ?_) (fun hx => ?_) | refine br_eq (fun hx => ?_) (fun hx => ?_) | refine br_ne (fun hx => ?_) (fun hx => ?_) | refine br_s (fun hx => ?_) (fun hx => ?_))) <;> (try (exfalso; first | omega | exact absurd hx (by assumption) | exact absurd (by assumption) hx)))) | ((with_reducible refine ar_id ?_); first | (refine ar_i64 (by omega) ?_) | (refine ar_u32 (by omega) ?_) | (refine ar_u64 (by omega) ?_) | (refine ar_u8 (by omega) ?_)) | ((with_reducible refine cn_id ?_); first | (refine cn rfl ?_) | (refine cn (by assumption) ?_) | (refine cn (by omega) ?_) | (refine cn (Chg.refl _ _) ?_)) | ((with_reducible refine ld_id ?_); first | (apply ld_hs hp; (focus ((repeat (first | exact Has.here | apply Has.there)); done)); exact rfl) | (refine ld_of (by assumption) ?_)) | ((with_reducible refine ldn_id ?_); first | (apply lda_hs hp; (focus ((repeat (first | exact Has.here | apply Has.there)); done)); exact rfl) | (apply ldn_hs hp; (focus ((repeat (first | exact Has.here | apply Has.there)); done)); exact rfl; exact rfl)) | ((with_reducible refine al_id ?_); first | (refine al_cel hp ?_; clear hp; intro bb w hp)) | ((with_reducible refine st_id ?_); first | (apply sta_hs hp; (focus ((repeat (first | exact Has.here | apply Has.there)); done)); exact rfl; exact rfl; clear hp; intro w hp; (try dsimp only [List.set] at hp)) | (apply st_hs hp; (focus ((repeat (first | exact Has.here | apply Has.there)); done)); exact rfl; exact rfl; clear hp; intro w hp; (try dsimp only [List.set] at hp))) | ((with_reducible refine gen_id ?_); first | (apply gen_build; exact rfl; exact rfl) | (apply gen_len; exact rfl; exact rfl; assumption) | (apply gen_min; exact rfl; exact rfl; exact rfl) | (apply gen_max; exact rfl; exact rfl; exact rfl) | (apply gen_ix; exact rfl; exact rfl; exact rfl; exact rfl; omega) | (apply gen_ixa; exact rfl; exact rfl; exact rfl; exact rfl; omega)) | ((with_reducible refine dr_id ?_); first | (refine dr_auto tabOk (by kernel_rfl) (by decide +kernel) ?_; (try replace hp := hp.drew)) | (refine dr_autog tabOk (by kernel_rfl) (by decide +kernel) ?_; (try replace hp := hp.drew)) | (refine dr_autot tabOk (by kernel_rfl) (by decide +kernel) ?_; (try replace hp := hp.drew))) | ((with_reducible refine fk_id ?_); first | (refine fk_mk ?_ ?_)) | ((with_reducible refine cl_id ?_); first | ((refine cl_eq ((hcmp _)) rfl rfl ?_; rintro e w ⟨rfl, hcc⟩; replace hp := hp.call0 hcc; refine ⟨_, rfl, ?_⟩))) | ((with_reducible refine rd_id ?_); first | ((refine rd_arr (b := b1) rfl ua rfl rfl x.toList (by simp) ?_)) | ((refine rd_arr (b := b2) rfl ua rfl rfl y.toList (by simp) ?_)) | ((refine rd_b2s rfl (s := arrS b1 0 x.toList) (cel_slat hp (j := 1) rfl (fun _ _ => rfl) (idflat x) (hml x)) u2 uu ut rfl ?_)) | ((refine rd_b2s rfl (s := arrS b2 0 y.toList) (cel_slat hp (j := 0) rfl (fun _ _ => rfl) (idflat y) (hml y)) u2 uu ut rfl ?_)) | (apply rd_len; exact rfl; exact rfl; assumption) | (apply rd_ix; exact rfl; exact rfl; exact rfl; exact rfl; omega))) <;> (conv => whnf)))
  exact ps_val (v' := i64 (cmpId x y)) rfl ⟨rfl, hp.chg⟩
theorem gen_lookQ {P : Program} {S : Nat → Prop} {w0 w : World} {rs : List Res} {κ ν : Type} [DecidableEq κ] {enc : κ → Value} {val : ν → Value} {k e t : TypeId} {b : Nat} {l : List (κ × ν)} {ρ : Operand → Value} {o : Oper} {g : Value → World → Prop} {m x : Operand} (hop : o.op = Op.lookup t m x false) (h : Hp S w0 w rs) (j : Nat) (hj : rs[j]? = some (mapR enc val b l)) (hm : ρ m = .map (some b)) (KE : KEnc P k enc) (ht : P.underlying t = some (.map k e)) {z : ν} (hz : zeroOf P e = some (val z)) (c : κ) (hx : ρ x = enc c) {v : ν} (hv : (l.lookup c).getD z = v) (hk : g (val v) w) : Gen P ρ o w g := by
  subst hv
  exact gen_look hop h j hj hm KE ht hz c hx hk
theorem tips38_any {w0 : World} {b m : Nat} {l : Ents} {bs : List Blk} (h : TreeAt w0 b m l) (hR : RelT l bs) (hl : l.length ≤ 1000) : Calls Try.prog 66 #[ptr b] w0 fun e w' => ∃ r : Sl Id, r.l.Perm (tipsB bs) ∧ (r.l.Pairwise fun x y => idLt y x = false) ∧ e = .returned r.v ∧ Made (rowR 55 32 Id.c r) w0 w' := by
  have hp := Hp.start (S := N0) w0
  have u1 := Try.underlying56
  have um := Try.underlying182
  have ub := Try.underlying181
  obtain ⟨es, clock, hM⟩ := h.map.getEs
  have hnd := h.map.nodup
  have hnone := none38_no h.cell
  refine calls_x (args := [_]) tabOk Try.func66 Try.ntmps66 Try.results66 rfl (Nat.le_of_ble_eq_true rfl) ?_
  ((conv => whnf); repeat' ((first | ((with_reducible refine br_id ?_); first | (with_reducible (first | refine br_t ?_ | refine br_f ?_ | refine br_not ?_)) | ((with_reducible (first | refine br_dec (fun hx => ?_) (fun hx => ?_) | refine br_eq (fun hx => ?_) (fun hx => ?_) | refine br_ne (fun hx => ?_) (fun hx => ?_) | refine br_s (fun hx => ?_) (fun hx => ?_))) <;> (try (exfalso; first | omega | exact absurd hx (by assumption) | exact absurd (by assumption) hx)))) | ((with_reducible refine ar_id ?_); first | (refine ar_i64 (by omega) ?_) | (refine ar_u32 (by omega) ?_) | (refine ar_u64 (by omega) ?_) | (refine ar_u8 (by omega) ?_)) | ((with_reducible refine cn_id ?_); first | (refine cn rfl ?_) | (refine cn (by assumption) ?_) | (refine cn (by omega) ?_) | (refine cn (Chg.refl _ _) ?_)) | ((with_reducible refine ld_id ?_); first | ((refine ld_of (hp.chg.cell0 (cell_of_heap h.cell rfl)) ?_)) | (apply ld_hs hp; (focus ((repeat (first | exact Has.here | apply Has.there)); done)); exact rfl) | (refine ld_of (by assumption) ?_)) | ((with_reducible refine ldn_id ?_); first | (apply lda_hs hp; (focus ((repeat (first | exact Has.here | apply Has.there)); done)); exact rfl) | (apply ldn_hs hp; (focus ((repeat (first | exact Has.here | apply Has.there)); done)); exact rfl; exact rfl)) | ((with_reducible refine al_id ?_); first | (refine al_cel hp ?_; clear hp; intro bb w hp)) | ((with_reducible refine st_id ?_); first | (apply sta_hs hp; (focus ((repeat (first | exact Has.here | apply Has.there)); done)); exact rfl; exact rfl; clear hp; intro w hp; (try dsimp only [List.set] at hp)) | (apply st_hs hp; (focus ((repeat (first | exact Has.here | apply Has.there)); done)); exact rfl; exact rfl; clear hp; intro w hp; (try dsimp only [List.set] at hp))) | ((with_reducible refine gen_id ?_); first | ((refine gen_mmake rfl Id.v Value.bool hp ?_); clear hp; intro bb w hp) | ((refine gen_range rfl hp rfl um (hM.keep0 hp.chg) ?_); clear hp; intro ib w hp) | (apply gen_build; exact rfl; exact rfl) | (apply gen_len; exact rfl; exact rfl; assumption) | (apply gen_min; exact rfl; exact rfl; exact rfl) | (apply gen_max; exact rfl; exact rfl; exact rfl) | (apply gen_ix; exact rfl; exact rfl; exact rfl; exact rfl; omega) | (apply gen_ixa; exact rfl; exact rfl; exact rfl; exact rfl; omega)) | ((with_reducible refine dr_id ?_); first | (refine dr_auto tabOk (by kernel_rfl) (by decide +kernel) ?_; (try replace hp := hp.drew)) | (refine dr_autog tabOk (by kernel_rfl) (by decide +kernel) ?_; (try replace hp := hp.drew)) | (refine dr_autot tabOk (by kernel_rfl) (by decide +kernel) ?_; (try replace hp := hp.drew))) | ((with_reducible refine fk_id ?_); first | (refine fk_mk ?_ ?_)) | ((with_reducible refine cl_id ?_); first | ((refine cl_eq ((none38_no (hp.chg.heap0 h.cell))) rfl rfl ?_; rintro e w ⟨rfl, hcc⟩; replace hp := hp.call0 hcc; refine ⟨_, rfl, ?_⟩))) | ((with_reducible refine rd_id ?_); first | (apply rd_len; exact rfl; exact rfl; assumption) | (apply rd_ix; exact rfl; exact rfl; exact rfl; exact rfl; omega))) <;> (conv => whnf)))
  obtain ⟨bu, hbu⟩ : ∃ b : Nat, b = bb := ⟨_, rfl⟩
  subst hbu
  refine lp_inv (α := List Nat × List (Id × Bool)) (fun a => [(0, ptr b), (3, .map (some bu)), (15, ptr ib)]) (fun a w => a.1.Nodup ∧ (∀ i ∈ a.1, i < l.length) ∧ (∀ k, (mlk a.2 k).getD false = true ↔ ∃ i ∈ a.1, ∃ p, l[i]? = some p ∧ p.2.parent = k) ∧ Hp N0 w0 w [itR ib m es clock a.1, mapR Id.v Value.bool bu a.2]) (fun a => l.length - a.1.length) ([], []) (by (repeat' (first | exact trivial | (refine ⟨rfl, ?_⟩)))) ⟨.nil, by simp, by simp, hp⟩ ?_
  clear hp
  rintro ⟨done, u⟩ e0 w ⟨hn, hd, hu, hp⟩
  dsimp only at hn hd hu hp ⊢
  ((conv => whnf); repeat' ((first | ((with_reducible refine br_id ?_); first | (with_reducible (first | refine br_t ?_ | refine br_f ?_ | refine br_not ?_)) | ((with_reducible (first | refine br_dec (fun hx => ?_) (fun hx => ?_) | refine br_eq (fun hx => ?_) (fun hx => ?_) | refine br_ne (fun hx => ?_) (fun hx => ?_) | refine br_s (fun hx => ?_) (fun hx => ?_))) <;> (try (exfalso; first | omega | exact absurd hx (by assumption) | exact absurd (by assumption) hx)))) | ((with_reducible refine ar_id ?_); first | (refine ar_i64 (by omega) ?_) | (refine ar_u32 (by omega) ?_) | (refine ar_u64 (by omega) ?_) | (refine ar_u8 (by omega) ?_)) | ((with_reducible refine cn_id ?_); first | (refine cn rfl ?_) | (refine cn (by assumption) ?_) | (refine cn (by omega) ?_) | (refine cn (Chg.refl _ _) ?_)) | ((with_reducible refine ld_id ?_); first | (apply ld_hs hp; (focus ((repeat (first | exact Has.here | apply Has.there)); done)); exact rfl) | (refine ld_of (by assumption) ?_)) | ((with_reducible refine ldn_id ?_); first | (apply lda_hs hp; (focus ((repeat (first | exact Has.here | apply Has.there)); done)); exact rfl) | (apply ldn_hs hp; (focus ((repeat (first | exact Has.here | apply Has.there)); done)); exact rfl; exact rfl)) | ((with_reducible refine al_id ?_); first | (refine al_cel hp ?_; clear hp; intro bb w hp)) | ((with_reducible refine st_id ?_); first | (apply sta_hs hp; (focus ((repeat (first | exact Has.here | apply Has.there)); done)); exact rfl; exact rfl; clear hp; intro w hp; (try dsimp only [List.set] at hp)) | (apply st_hs hp; (focus ((repeat (first | exact Has.here | apply Has.there)); done)); exact rfl; exact rfl; clear hp; intro w hp; (try dsimp only [List.set] at hp))) | ((with_reducible refine gen_id ?_); first | (apply gen_build; exact rfl; exact rfl) | (apply gen_len; exact rfl; exact rfl; assumption) | (apply gen_min; exact rfl; exact rfl; exact rfl) | (apply gen_max; exact rfl; exact rfl; exact rfl) | (apply gen_ix; exact rfl; exact rfl; exact rfl; exact rfl; omega) | (apply gen_ixa; exact rfl; exact rfl; exact rfl; exact rfl; omega)) | ((with_reducible refine dr_id ?_); first | (refine dr_auto tabOk (by kernel_rfl) (by decide +kernel) ?_; (try replace hp := hp.drew)) | (refine dr_autog tabOk (by kernel_rfl) (by decide +kernel) ?_; (try replace hp := hp.drew)) | (refine dr_autot tabOk (by kernel_rfl) (by decide +kernel) ?_; (try replace hp := hp.drew))) | ((with_reducible refine fk_id ?_); first | (refine fk_mk ?_ ?_)) | ((with_reducible refine rd_id ?_); first | (apply rd_len; exact rfl; exact rfl; assumption) | (apply rd_ix; exact rfl; exact rfl; exact rfl; exact rfl; omega))) <;> (conv => whnf)))
  refine gen_next rfl hp 0 rfl rfl (hM.keep0 hp.chg) hd (fun hall => ?_) (fun i p w hi hni hp' => ?_)
  · have hpar : ∀ k, (mlk u k).getD false = decide (k ∈ l.map (·.2.parent)) := fun k => by
      rw [Bool.eq_iff_iff, hu k, decide_eq_true_eq, List.mem_map]
      constructor
      · rintro ⟨i, _, p, hp, rfl⟩
        exact ⟨p, List.mem_of_getElem? hp, rfl⟩
      · rintro ⟨p, hp, rfl⟩
        obtain ⟨i, hi⟩ := List.getElem?_of_mem hp
        exact ⟨i, hall i (List.getElem?_eq_some_iff.1 hi).1, p, hi, rfl⟩
    clear hu hn hd hall
    ((conv => whnf); repeat' ((first | ((with_reducible refine br_id ?_); first | (with_reducible (first | refine br_t ?_ | refine br_f ?_ | refine br_not ?_)) | ((with_reducible (first | refine br_dec (fun hx => ?_) (fun hx => ?_) | refine br_eq (fun hx => ?_) (fun hx => ?_) | refine br_ne (fun hx => ?_) (fun hx => ?_) | refine br_s (fun hx => ?_) (fun hx => ?_))) <;> (try (exfalso; first | omega | exact absurd hx (by assumption) | exact absurd (by assumption) hx)))) | ((with_reducible refine ar_id ?_); first | (refine ar_i64 (by omega) ?_) | (refine ar_u32 (by omega) ?_) | (refine ar_u64 (by omega) ?_) | (refine ar_u8 (by omega) ?_)) | ((with_reducible refine cn_id ?_); first | (refine cn rfl ?_) | (refine cn (by assumption) ?_) | (refine cn (by omega) ?_) | (refine cn (Chg.refl _ _) ?_)) | ((with_reducible refine ld_id ?_); first | ((refine ld_of (hp.chg.cell0 (cell_of_heap h.cell rfl)) ?_)) | (apply ld_hs hp; (focus ((repeat (first | exact Has.here | apply Has.there)); done)); exact rfl) | (refine ld_of (by assumption) ?_)) | ((with_reducible refine ldn_id ?_); first | (apply lda_hs hp; (focus ((repeat (first | exact Has.here | apply Has.there)); done)); exact rfl) | (apply ldn_hs hp; (focus ((repeat (first | exact Has.here | apply Has.there)); done)); exact rfl; exact rfl)) | ((with_reducible refine al_id ?_); first | (refine al_cel hp ?_; clear hp; intro bb w hp)) | ((with_reducible refine st_id ?_); first | (apply sta_hs hp; (focus ((repeat (first | exact Has.here | apply Has.there)); done)); exact rfl; exact rfl; clear hp; intro w hp; (try dsimp only [List.set] at hp)) | (apply st_hs hp; (focus ((repeat (first | exact Has.here | apply Has.there)); done)); exact rfl; exact rfl; clear hp; intro w hp; (try dsimp only [List.set] at hp))) | ((with_reducible refine gen_id ?_); first | ((refine gen_range rfl hp rfl um (hM.keep0 hp.chg) ?_); clear hp; intro ib2 w hp) | (apply gen_build; exact rfl; exact rfl) | (apply gen_len; exact rfl; exact rfl; assumption) | (apply gen_min; exact rfl; exact rfl; exact rfl) | (apply gen_max; exact rfl; exact rfl; exact rfl) | (apply gen_ix; exact rfl; exact rfl; exact rfl; exact rfl; omega) | (apply gen_ixa; exact rfl; exact rfl; exact rfl; exact rfl; omega)) | ((with_reducible refine dr_id ?_); first | (refine dr_auto tabOk (by kernel_rfl) (by decide +kernel) ?_; (try replace hp := hp.drew)) | (refine dr_autog tabOk (by kernel_rfl) (by decide +kernel) ?_; (try replace hp := hp.drew)) | (refine dr_autot tabOk (by kernel_rfl) (by decide +kernel) ?_; (try replace hp := hp.drew))) | ((with_reducible refine fk_id ?_); first | (refine fk_mk ?_ ?_)) | ((with_reducible refine rd_id ?_); first | (apply rd_len; exact rfl; exact rfl; assumption) | (apply rd_ix; exact rfl; exact rfl; exact rfl; exact rfl; omega))) <;> (conv => whnf)))
    replace hp := hp.nilRow 55 32 Id.c
    refine lp_inv (α := List Nat × Sl Id) (fun a => [(3, .map (some bu)), (6, a.2.v), (27, ptr ib2)]) (fun a w => a.1.Nodup ∧ (∀ i ∈ a.1, i < l.length) ∧ a.2.l = (a.1.filterMap fun i => (l[i]?).bind fun p => if (!decide (p.1 ∈ l.map (·.2.parent))) = true then some p.1 else none) ∧ Hp N0 w0 w [rowR 55 32 Id.c a.2, itR ib2 m es clock a.1, itR ib m es clock done, mapR Id.v Value.bool bu u]) (fun a => l.length - a.1.length) ([], Sl.nil) (by (repeat' (first | exact trivial | (refine ⟨rfl, ?_⟩)))) ⟨.nil, by simp, rfl, hp⟩ ?_
    clear hp
    rintro ⟨don2, s⟩ e0 w ⟨hn, hd, hs, hp⟩
    dsimp only at hn hd hs hp ⊢
    have hsl : s.l.length ≤ don2.length := by rw [hs]; exact List.length_filterMap_le ..
    ((conv => whnf); repeat' ((first | ((with_reducible refine br_id ?_); first | (with_reducible (first | refine br_t ?_ | refine br_f ?_ | refine br_not ?_)) | ((with_reducible (first | refine br_dec (fun hx => ?_) (fun hx => ?_) | refine br_eq (fun hx => ?_) (fun hx => ?_) | refine br_ne (fun hx => ?_) (fun hx => ?_) | refine br_s (fun hx => ?_) (fun hx => ?_))) <;> (try (exfalso; first | omega | exact absurd hx (by assumption) | exact absurd (by assumption) hx)))) | ((with_reducible refine ar_id ?_); first | (refine ar_i64 (by omega) ?_) | (refine ar_u32 (by omega) ?_) | (refine ar_u64 (by omega) ?_) | (refine ar_u8 (by omega) ?_)) | ((with_reducible refine cn_id ?_); first | (refine cn rfl ?_) | (refine cn (by assumption) ?_) | (refine cn (by omega) ?_) | (refine cn (Chg.refl _ _) ?_)) | ((with_reducible refine ld_id ?_); first | (apply ld_hs hp; (focus ((repeat (first | exact Has.here | apply Has.there)); done)); exact rfl) | (refine ld_of (by assumption) ?_)) | ((with_reducible refine ldn_id ?_); first | (apply lda_hs hp; (focus ((repeat (first | exact Has.here | apply Has.there)); done)); exact rfl) | (apply ldn_hs hp; (focus ((repeat (first | exact Has.here | apply Has.there)); done)); exact rfl; exact rfl)) | ((with_reducible refine al_id ?_); first | (refine al_cel hp ?_; clear hp; intro bb w hp)) | ((with_reducible refine st_id ?_); first | (apply sta_hs hp; (focus ((repeat (first | exact Has.here | apply Has.there)); done)); exact rfl; exact rfl; clear hp; intro w hp; (try dsimp only [List.set] at hp)) | (apply st_hs hp; (focus ((repeat (first | exact Has.here | apply Has.there)); done)); exact rfl; exact rfl; clear hp; intro w hp; (try dsimp only [List.set] at hp))) | ((with_reducible refine gen_id ?_); first | (apply gen_build; exact rfl; exact rfl) | (apply gen_len; exact rfl; exact rfl; assumption) | (apply gen_min; exact rfl; exact rfl; exact rfl) | (apply gen_max; exact rfl; exact rfl; exact rfl) | (apply gen_ix; exact rfl; exact rfl; exact rfl; exact rfl; omega) | (apply gen_ixa; exact rfl; exact rfl; exact rfl; exact rfl; omega)) | ((with_reducible refine dr_id ?_); first | (refine dr_auto tabOk (by kernel_rfl) (by decide +kernel) ?_; (try replace hp := hp.drew)) | (refine dr_autog tabOk (by kernel_rfl) (by decide +kernel) ?_; (try replace hp := hp.drew)) | (refine dr_autot tabOk (by kernel_rfl) (by decide +kernel) ?_; (try replace hp := hp.drew))) | ((with_reducible refine fk_id ?_); first | (refine fk_mk ?_ ?_)) | ((with_reducible refine rd_id ?_); first | (apply rd_len; exact rfl; exact rfl; assumption) | (apply rd_ix; exact rfl; exact rfl; exact rfl; exact rfl; omega))) <;> (conv => whnf)))
    refine gen_next rfl hp 1 rfl rfl (hM.keep0 hp.chg) hd (fun hall => ?_) (fun i p w hi hni hp' => ?_)
    · have hpe := met_filter hn hd hall (fun p : Id × Blk => !decide (p.1 ∈ l.map (·.2.parent))) (fun p : Id × Blk => p.1)
      rw [← hs, tips_rel hR] at hpe
      have hdl : don2.length ≤ l.length := by
        have h1 := List.Nodup.length_le_of_subset hn (l₂ := List.range l.length) fun i hi => List.mem_range.2 (hd i hi)
        rwa [List.length_range] at h1
      ((conv => whnf); repeat' ((first | ((with_reducible refine br_id ?_); first | (with_reducible (first | refine br_t ?_ | refine br_f ?_ | refine br_not ?_)) | ((with_reducible (first | refine br_dec (fun hx => ?_) (fun hx => ?_) | refine br_eq (fun hx => ?_) (fun hx => ?_) | refine br_ne (fun hx => ?_) (fun hx => ?_) | refine br_s (fun hx => ?_) (fun hx => ?_))) <;> (try (exfalso; first | omega | exact absurd hx (by assumption) | exact absurd (by assumption) hx)))) | ((with_reducible refine ar_id ?_); first | (refine ar_i64 (by omega) ?_) | (refine ar_u32 (by omega) ?_) | (refine ar_u64 (by omega) ?_) | (refine ar_u8 (by omega) ?_)) | ((with_reducible refine cn_id ?_); first | (refine cn rfl ?_) | (refine cn (by assumption) ?_) | (refine cn (by omega) ?_) | (refine cn (Chg.refl _ _) ?_)) | ((with_reducible refine ld_id ?_); first | (apply ld_hs hp; (focus ((repeat (first | exact Has.here | apply Has.there)); done)); exact rfl) | (refine ld_of (by assumption) ?_)) | ((with_reducible refine ldn_id ?_); first | (apply lda_hs hp; (focus ((repeat (first | exact Has.here | apply Has.there)); done)); exact rfl) | (apply ldn_hs hp; (focus ((repeat (first | exact Has.here | apply Has.there)); done)); exact rfl; exact rfl)) | ((with_reducible refine al_id ?_); first | (refine al_cel hp ?_; clear hp; intro bb w hp)) | ((with_reducible refine st_id ?_); first | (apply sta_hs hp; (focus ((repeat (first | exact Has.here | apply Has.there)); done)); exact rfl; exact rfl; clear hp; intro w hp; (try dsimp only [List.set] at hp)) | (apply st_hs hp; (focus ((repeat (first | exact Has.here | apply Has.there)); done)); exact rfl; exact rfl; clear hp; intro w hp; (try dsimp only [List.set] at hp))) | ((with_reducible refine gen_id ?_); first | (apply gen_build; exact rfl; exact rfl) | (apply gen_len; exact rfl; exact rfl; assumption) | (apply gen_min; exact rfl; exact rfl; exact rfl) | (apply gen_max; exact rfl; exact rfl; exact rfl) | (apply gen_ix; exact rfl; exact rfl; exact rfl; exact rfl; omega) | (apply gen_ixa; exact rfl; exact rfl; exact rfl; exact rfl; omega)) | ((with_reducible refine dr_id ?_); first | (refine dr_auto tabOk (by kernel_rfl) (by decide +kernel) ?_; (try replace hp := hp.drew)) | (refine dr_autog tabOk (by kernel_rfl) (by decide +kernel) ?_; (try replace hp := hp.drew)) | (refine dr_autot tabOk (by kernel_rfl) (by decide +kernel) ?_; (try replace hp := hp.drew))) | ((with_reducible refine fk_id ?_); first | (refine fk_mk ?_ ?_)) | ((with_reducible refine rd_id ?_); first | (apply rd_len; exact rfl; exact rfl; assumption) | (apply rd_ix; exact rfl; exact rfl; exact rfl; exact rfl; omega))) <;> (conv => whnf)))
      refine cl_eq (sortf_chg (enc := Id.c) srtI Try.isAgg55 Try.sizeOf55 (fun _ => rfl) (fun x => idL_one x (List.mem_singleton.2 rfl)) cmpId swoId 128 #[] (enters_of Try.func128 (by kernel_rfl) rfl) (hp.get (j := 0) rfl) (by omega) (fun x y W _ => cmpId_any x y W)) rfl rfl ?_
      rintro e w ⟨rfl, l', hl', hsrt, hmt⟩
      replace hp := hp.via (j := 0) rfl hmt
      clear hmt
      dsimp only [List.set] at hp
      refine ⟨_, rfl, ?_⟩
      have hll : l'.length = s.l.length := hl'.length_eq
      ((conv => whnf); repeat' ((first | ((with_reducible refine br_id ?_); first | (with_reducible (first | refine br_t ?_ | refine br_f ?_ | refine br_not ?_)) | ((with_reducible (first | refine br_dec (fun hx => ?_) (fun hx => ?_) | refine br_eq (fun hx => ?_) (fun hx => ?_) | refine br_ne (fun hx => ?_) (fun hx => ?_) | refine br_s (fun hx => ?_) (fun hx => ?_))) <;> (try (exfalso; first | omega | exact absurd hx (by assumption) | exact absurd (by assumption) hx)))) | ((with_reducible refine ar_id ?_); first | (refine ar_i64 (by omega) ?_) | (refine ar_u32 (by omega) ?_) | (refine ar_u64 (by omega) ?_) | (refine ar_u8 (by omega) ?_)) | ((with_reducible refine cn_id ?_); first | (refine cn rfl ?_) | (refine cn (by assumption) ?_) | (refine cn (by omega) ?_) | (refine cn (Chg.refl _ _) ?_)) | ((with_reducible refine ld_id ?_); first | (apply ld_hs hp; (focus ((repeat (first | exact Has.here | apply Has.there)); done)); exact rfl) | (refine ld_of (by assumption) ?_)) | ((with_reducible refine ldn_id ?_); first | (apply lda_hs hp; (focus ((repeat (first | exact Has.here | apply Has.there)); done)); exact rfl) | (apply ldn_hs hp; (focus ((repeat (first | exact Has.here | apply Has.there)); done)); exact rfl; exact rfl)) | ((with_reducible refine al_id ?_); first | (refine al_cel hp ?_; clear hp; intro bb w hp)) | ((with_reducible refine st_id ?_); first | (apply sta_hs hp; (focus ((repeat (first | exact Has.here | apply Has.there)); done)); exact rfl; exact rfl; clear hp; intro w hp; (try dsimp only [List.set] at hp)) | (apply st_hs hp; (focus ((repeat (first | exact Has.here | apply Has.there)); done)); exact rfl; exact rfl; clear hp; intro w hp; (try dsimp only [List.set] at hp))) | ((with_reducible refine gen_id ?_); first | (apply gen_build; exact rfl; exact rfl) | (apply gen_len; exact rfl; exact rfl; assumption) | (apply gen_min; exact rfl; exact rfl; exact rfl) | (apply gen_max; exact rfl; exact rfl; exact rfl) | (apply gen_ix; exact rfl; exact rfl; exact rfl; exact rfl; omega) | (apply gen_ixa; exact rfl; exact rfl; exact rfl; exact rfl; omega)) | ((with_reducible refine dr_id ?_); first | (refine dr_auto tabOk (by kernel_rfl) (by decide +kernel) ?_; (try replace hp := hp.drew)) | (refine dr_autog tabOk (by kernel_rfl) (by decide +kernel) ?_; (try replace hp := hp.drew)) | (refine dr_autot tabOk (by kernel_rfl) (by decide +kernel) ?_; (try replace hp := hp.drew))) | ((with_reducible refine fk_id ?_); first | (refine fk_mk ?_ ?_)) | ((with_reducible refine rd_id ?_); first | (apply rd_len; exact rfl; exact rfl; assumption) | (apply rd_ix; exact rfl; exact rfl; exact rfl; exact rfl; omega))) <;> (conv => whnf)))
      exact ps_val (v' := Sl.v s) rfl ⟨⟨s.A, s.c, l'⟩, hl'.trans hpe, hsrt, by show Ending.returned (.slice s.A s.l.length s.c) = .returned (.slice s.A l'.length s.c); rw [hll], hp.made1 (j := 0) rfl⟩
    · clear hp
      have hp := hp'
      clear hp'
      dsimp only [List.set] at hp
      have hil := (List.getElem?_eq_some_iff.1 hi).1
      have hdl := met_len hn hd hil hni
      have hsn := met_snoc hn hd hil hni
      obtain ⟨k, x⟩ := p
      have hk := hpar k
      obtain ⟨q, hq⟩ : ∃ q, decide (k ∈ l.map (·.2.parent)) = q := ⟨_, rfl⟩
      rw [hq] at hk
      cases q with
      | true =>
        ((conv => whnf); repeat' ((first | ((with_reducible refine br_id ?_); first | (with_reducible (first | refine br_t ?_ | refine br_f ?_ | refine br_not ?_)) | ((with_reducible (first | refine br_dec (fun hx => ?_) (fun hx => ?_) | refine br_eq (fun hx => ?_) (fun hx => ?_) | refine br_ne (fun hx => ?_) (fun hx => ?_) | refine br_s (fun hx => ?_) (fun hx => ?_))) <;> (try (exfalso; first | omega | exact absurd hx (by assumption) | exact absurd (by assumption) hx)))) | ((with_reducible refine ar_id ?_); first | (refine ar_i64 (by omega) ?_) | (refine ar_u32 (by omega) ?_) | (refine ar_u64 (by omega) ?_) | (refine ar_u8 (by omega) ?_)) | ((with_reducible refine cn_id ?_); first | (refine cn rfl ?_) | (refine cn (by assumption) ?_) | (refine cn (by omega) ?_) | (refine cn (Chg.refl _ _) ?_)) | ((with_reducible refine ld_id ?_); first | (apply ld_hs hp; (focus ((repeat (first | exact Has.here | apply Has.there)); done)); exact rfl) | (refine ld_of (by assumption) ?_)) | ((with_reducible refine ldn_id ?_); first | (apply lda_hs hp; (focus ((repeat (first | exact Has.here | apply Has.there)); done)); exact rfl) | (apply ldn_hs hp; (focus ((repeat (first | exact Has.here | apply Has.there)); done)); exact rfl; exact rfl)) | ((with_reducible refine al_id ?_); first | (refine al_cel hp ?_; clear hp; intro bb w hp)) | ((with_reducible refine st_id ?_); first | (apply sta_hs hp; (focus ((repeat (first | exact Has.here | apply Has.there)); done)); exact rfl; exact rfl; clear hp; intro w hp; (try dsimp only [List.set] at hp)) | (apply st_hs hp; (focus ((repeat (first | exact Has.here | apply Has.there)); done)); exact rfl; exact rfl; clear hp; intro w hp; (try dsimp only [List.set] at hp))) | ((with_reducible refine gen_id ?_); first | ((refine gen_entry rfl hp 1 (i := i) (done := don2) rfl rfl (hM.keep0 hp.chg) hi ?_)) | ((refine gen_lookQ rfl hp 4 rfl rfl idK ub (z := false) rfl k rfl hk ?_)) | (apply gen_build; exact rfl; exact rfl) | (apply gen_len; exact rfl; exact rfl; assumption) | (apply gen_min; exact rfl; exact rfl; exact rfl) | (apply gen_max; exact rfl; exact rfl; exact rfl) | (apply gen_ix; exact rfl; exact rfl; exact rfl; exact rfl; omega) | (apply gen_ixa; exact rfl; exact rfl; exact rfl; exact rfl; omega)) | ((with_reducible refine dr_id ?_); first | (refine dr_auto tabOk (by kernel_rfl) (by decide +kernel) ?_; (try replace hp := hp.drew)) | (refine dr_autog tabOk (by kernel_rfl) (by decide +kernel) ?_; (try replace hp := hp.drew)) | (refine dr_autot tabOk (by kernel_rfl) (by decide +kernel) ?_; (try replace hp := hp.drew))) | ((with_reducible refine fk_id ?_); first | (refine fk_mk ?_ ?_)) | ((with_reducible refine rd_id ?_); first | (apply rd_len; exact rfl; exact rfl; assumption) | (apply rd_ix; exact rfl; exact rfl; exact rfl; exact rfl; omega))) <;> (conv => whnf)))
        refine lp_next (don2 ++ [i], s) (by show l.length - (don2 ++ [i]).length < l.length - don2.length; rw [List.length_append]; simp; omega) (by (repeat' (first | exact trivial | (refine ⟨rfl, ?_⟩)))) ⟨hsn.1, hsn.2, ?_, hp.tail⟩
        show s.l = (don2 ++ [i]).filterMap _
        rw [List.filterMap_append, hs]
        simp [hi, hq]
      | false =>
        ((conv => whnf); repeat' ((first | ((with_reducible refine br_id ?_); first | (with_reducible (first | refine br_t ?_ | refine br_f ?_ | refine br_not ?_)) | ((with_reducible (first | refine br_dec (fun hx => ?_) (fun hx => ?_) | refine br_eq (fun hx => ?_) (fun hx => ?_) | refine br_ne (fun hx => ?_) (fun hx => ?_) | refine br_s (fun hx => ?_) (fun hx => ?_))) <;> (try (exfalso; first | omega | exact absurd hx (by assumption) | exact absurd (by assumption) hx)))) | ((with_reducible refine ar_id ?_); first | (refine ar_i64 (by omega) ?_) | (refine ar_u32 (by omega) ?_) | (refine ar_u64 (by omega) ?_) | (refine ar_u8 (by omega) ?_)) | ((with_reducible refine cn_id ?_); first | (refine cn rfl ?_) | (refine cn (by assumption) ?_) | (refine cn (by omega) ?_) | (refine cn (Chg.refl _ _) ?_)) | ((with_reducible refine ld_id ?_); first | (apply ld_hs hp; (focus ((repeat (first | exact Has.here | apply Has.there)); done)); exact rfl) | (refine ld_of (by assumption) ?_)) | ((with_reducible refine ldn_id ?_); first | (apply lda_hs hp; (focus ((repeat (first | exact Has.here | apply Has.there)); done)); exact rfl) | (apply ldn_hs hp; (focus ((repeat (first | exact Has.here | apply Has.there)); done)); exact rfl; exact rfl)) | ((with_reducible refine al_id ?_); first | (refine al_cel hp ?_; clear hp; intro bb w hp)) | ((with_reducible refine st_id ?_); first | (apply sta_hs hp; (focus ((repeat (first | exact Has.here | apply Has.there)); done)); exact rfl; exact rfl; clear hp; intro w hp; (try dsimp only [List.set] at hp)) | (apply st_hs hp; (focus ((repeat (first | exact Has.here | apply Has.there)); done)); exact rfl; exact rfl; clear hp; intro w hp; (try dsimp only [List.set] at hp))) | ((with_reducible refine gen_id ?_); first | ((refine gen_entry rfl hp 1 (i := i) (done := don2) rfl rfl (hM.keep0 hp.chg) hi ?_)) | ((refine gen_lookQ rfl hp 4 rfl rfl idK ub (z := false) rfl k rfl hk ?_)) | ((refine gen_bs rfl hp el_id Id.c [k] [Id.v k] rfl rfl rfl (fun _ hh => by simp at hh; subst hh; rfl) (by omega) ?_); clear hp; intro br w hp) | ((refine gen_app (s := s) rfl hp 2 rfl el_id rfl ⟨some ⟨br, 0, none⟩, 1, [k]⟩ rfl (hp.row (j := 0) rfl) (fun _ _ => rfl) idL_one (by simp only [List.length_cons, List.length_nil]; omega) (by simp only [maxLen, List.length_cons, List.length_nil]; omega) ?_); clear hp; intro A2 c2 w hp; dsimp only [List.set] at hp) | (apply gen_build; exact rfl; exact rfl) | (apply gen_len; exact rfl; exact rfl; assumption) | (apply gen_min; exact rfl; exact rfl; exact rfl) | (apply gen_max; exact rfl; exact rfl; exact rfl) | (apply gen_ix; exact rfl; exact rfl; exact rfl; exact rfl; omega) | (apply gen_ixa; exact rfl; exact rfl; exact rfl; exact rfl; omega)) | ((with_reducible refine dr_id ?_); first | (refine dr_auto tabOk (by kernel_rfl) (by decide +kernel) ?_; (try replace hp := hp.drew)) | (refine dr_autog tabOk (by kernel_rfl) (by decide +kernel) ?_; (try replace hp := hp.drew)) | (refine dr_autot tabOk (by kernel_rfl) (by decide +kernel) ?_; (try replace hp := hp.drew))) | ((with_reducible refine fk_id ?_); first | (refine fk_mk ?_ ?_)) | ((with_reducible refine rd_id ?_); first | (apply rd_len; exact rfl; exact rfl; assumption) | (apply rd_ix; exact rfl; exact rfl; exact rfl; exact rfl; omega))) <;> (conv => whnf)))
        refine lp_next (don2 ++ [i], ⟨A2, c2, s.l ++ [k]⟩) (by show l.length - (don2 ++ [i]).length < l.length - don2.length; rw [List.length_append]; simp; omega) (by (repeat' (first | exact trivial | (refine ⟨rfl, ?_⟩)))) ⟨hsn.1, hsn.2, ?_, hp.tail.tail⟩
        show s.l ++ [k] = (don2 ++ [i]).filterMap _
        rw [List.filterMap_append, hs]
        simp [hi, hq]
  · clear hp
    have hp := hp'
    clear hp'
    dsimp only [List.set] at hp
    have hil := (List.getElem?_eq_some_iff.1 hi).1
    have hdl := met_len hn hd hil hni
    have hsn := met_snoc hn hd hil hni
    obtain ⟨k, x⟩ := p
    ((conv => whnf); repeat' ((first | ((with_reducible refine br_id ?_); first | (with_reducible (first | refine br_t ?_ | refine br_f ?_ | refine br_not ?_)) | ((with_reducible (first | refine br_dec (fun hx => ?_) (fun hx => ?_) | refine br_eq (fun hx => ?_) (fun hx => ?_) | refine br_ne (fun hx => ?_) (fun hx => ?_) | refine br_s (fun hx => ?_) (fun hx => ?_))) <;> (try (exfalso; first | omega | exact absurd hx (by assumption) | exact absurd (by assumption) hx)))) | ((with_reducible refine ar_id ?_); first | (refine ar_i64 (by omega) ?_) | (refine ar_u32 (by omega) ?_) | (refine ar_u64 (by omega) ?_) | (refine ar_u8 (by omega) ?_)) | ((with_reducible refine cn_id ?_); first | (refine cn rfl ?_) | (refine cn (by assumption) ?_) | (refine cn (by omega) ?_) | (refine cn (Chg.refl _ _) ?_)) | ((with_reducible refine ld_id ?_); first | (apply ld_hs hp; (focus ((repeat (first | exact Has.here | apply Has.there)); done)); exact rfl) | (refine ld_of (by assumption) ?_)) | ((with_reducible refine ldn_id ?_); first | (apply lda_hs hp; (focus ((repeat (first | exact Has.here | apply Has.there)); done)); exact rfl) | (apply ldn_hs hp; (focus ((repeat (first | exact Has.here | apply Has.there)); done)); exact rfl; exact rfl)) | ((with_reducible refine al_id ?_); first | (refine al_cel hp ?_; clear hp; intro bb w hp)) | ((with_reducible refine st_id ?_); first | (apply sta_hs hp; (focus ((repeat (first | exact Has.here | apply Has.there)); done)); exact rfl; exact rfl; clear hp; intro w hp; (try dsimp only [List.set] at hp)) | (apply st_hs hp; (focus ((repeat (first | exact Has.here | apply Has.there)); done)); exact rfl; exact rfl; clear hp; intro w hp; (try dsimp only [List.set] at hp))) | ((with_reducible refine gen_id ?_); first | ((refine gen_entry rfl hp 0 (i := i) (done := done) rfl rfl (hM.keep0 hp.chg) hi ?_)) | ((refine gen_put rfl hp 2 rfl rfl idK ub (x.parent) rfl (true) rfl ?_); clear hp; intro w hp) | (apply gen_build; exact rfl; exact rfl) | (apply gen_len; exact rfl; exact rfl; assumption) | (apply gen_min; exact rfl; exact rfl; exact rfl) | (apply gen_max; exact rfl; exact rfl; exact rfl) | (apply gen_ix; exact rfl; exact rfl; exact rfl; exact rfl; omega) | (apply gen_ixa; exact rfl; exact rfl; exact rfl; exact rfl; omega)) | ((with_reducible refine dr_id ?_); first | (refine dr_auto tabOk (by kernel_rfl) (by decide +kernel) ?_; (try replace hp := hp.drew)) | (refine dr_autog tabOk (by kernel_rfl) (by decide +kernel) ?_; (try replace hp := hp.drew)) | (refine dr_autot tabOk (by kernel_rfl) (by decide +kernel) ?_; (try replace hp := hp.drew))) | ((with_reducible refine fk_id ?_); first | (refine fk_mk ?_ ?_)) | ((with_reducible refine rd_id ?_); first | (apply rd_len; exact rfl; exact rfl; assumption) | (apply rd_ix; exact rfl; exact rfl; exact rfl; exact rfl; omega))) <;> (conv => whnf)))
    dsimp only [List.set] at hp
    refine lp_next (done ++ [i], mput u x.parent true) (by show l.length - (done ++ [i]).length < l.length - done.length; rw [List.length_append]; simp; omega) (by (repeat' (first | exact trivial | (refine ⟨rfl, ?_⟩)))) ⟨hsn.1, hsn.2, fun k' => ?_, hp.tail⟩
    show (mlk (mput u x.parent true) k').getD false = true ↔ _
    unfold mlk
    rw [lookup_mput]
    by_cases hkk : k' = x.parent
    · rw [if_pos hkk]
      exact ⟨fun _ => ⟨i, by simp, _, hi, hkk.symm⟩, fun _ => rfl⟩
    · rw [if_neg hkk]
      refine (hu k').trans ⟨fun ⟨j, hj, p, hp, he⟩ => ⟨j, List.mem_append_left _ hj, p, hp, he⟩, fun ⟨j, hj, p, hp, he⟩ => ?_⟩
      rcases List.mem_append.1 hj with hj | hj
      · exact ⟨j, hj, p, hp, he⟩
      · rw [List.mem_singleton.1 hj, hi] at hp
        cases hp
        exact absurd he.symm hkk
end Go.Proofs.Ythcapeihhldpcaa
