/- Pool: contracts of the package pool. -/
import Derived.Test.YthcapeihhldpcaaKeyK
import Derived.Test.YthcapeihhldpcaaPay
import Derived.Test.YthcapeihhldpcaaTailS
import Derived.Test.YthcapeihhldpcaaTailA
import Derived.Test.YthcapeihhldpcaaStr
import Derived.Test.YthcapeihhldpcaaOut
namespace Go.Proofs.Ythcapeihhldpcaa
set_option linter.unusedSimpArgs false
set_option linter.unusedVariables false
open Go.RowKit
set_option maxRecDepth 100000
set_option maxHeartbeats 2000000

structure Wt where
  sub : Sub
  id : Id
abbrev Wt.c (w : Wt) : List Value := (u32 w.sub.key.ses :: u32 w.sub.key.seq :: u8 w.sub.breach[0] :: u8 w.sub.breach[1] :: u8 w.sub.breach[2] :: u8 w.sub.breach[3] :: u8 w.sub.breach[4] :: u8 w.sub.breach[5] :: u8 w.sub.breach[6] :: u8 w.sub.breach[7] :: u8 w.sub.breach[8] :: u8 w.sub.breach[9] :: u8 w.sub.breach[10] :: u8 w.sub.breach[11] :: u8 w.sub.breach[12] :: u8 w.sub.breach[13] :: u8 w.sub.breach[14] :: u8 w.sub.breach[15] :: u8 w.sub.breach[16] :: u8 w.sub.breach[17] :: u8 w.sub.breach[18] :: u8 w.sub.breach[19] :: u8 w.sub.breach[20] :: u8 w.sub.breach[21] :: u8 w.sub.breach[22] :: u8 w.sub.breach[23] :: u8 w.sub.breach[24] :: u8 w.sub.breach[25] :: u8 w.sub.breach[26] :: u8 w.sub.breach[27] :: u8 w.sub.breach[28] :: u8 w.sub.breach[29] :: u8 w.sub.breach[30] :: u8 w.sub.breach[31] :: u32 w.sub.height :: i64 w.sub.tier :: w.sub.tx.v :: u8 w.id[0] :: u8 w.id[1] :: u8 w.id[2] :: u8 w.id[3] :: u8 w.id[4] :: u8 w.id[5] :: u8 w.id[6] :: u8 w.id[7] :: u8 w.id[8] :: u8 w.id[9] :: u8 w.id[10] :: u8 w.id[11] :: u8 w.id[12] :: u8 w.id[13] :: u8 w.id[14] :: u8 w.id[15] :: u8 w.id[16] :: u8 w.id[17] :: u8 w.id[18] :: u8 w.id[19] :: u8 w.id[20] :: u8 w.id[21] :: u8 w.id[22] :: u8 w.id[23] :: u8 w.id[24] :: u8 w.id[25] :: u8 w.id[26] :: u8 w.id[27] :: u8 w.id[28] :: u8 w.id[29] :: u8 w.id[30] :: u8 w.id[31] :: [])
abbrev Wt.v (w : Wt) : Value := .agg (List.toArray (u32 w.sub.key.ses :: u32 w.sub.key.seq :: u8 w.sub.breach[0] :: u8 w.sub.breach[1] :: u8 w.sub.breach[2] :: u8 w.sub.breach[3] :: u8 w.sub.breach[4] :: u8 w.sub.breach[5] :: u8 w.sub.breach[6] :: u8 w.sub.breach[7] :: u8 w.sub.breach[8] :: u8 w.sub.breach[9] :: u8 w.sub.breach[10] :: u8 w.sub.breach[11] :: u8 w.sub.breach[12] :: u8 w.sub.breach[13] :: u8 w.sub.breach[14] :: u8 w.sub.breach[15] :: u8 w.sub.breach[16] :: u8 w.sub.breach[17] :: u8 w.sub.breach[18] :: u8 w.sub.breach[19] :: u8 w.sub.breach[20] :: u8 w.sub.breach[21] :: u8 w.sub.breach[22] :: u8 w.sub.breach[23] :: u8 w.sub.breach[24] :: u8 w.sub.breach[25] :: u8 w.sub.breach[26] :: u8 w.sub.breach[27] :: u8 w.sub.breach[28] :: u8 w.sub.breach[29] :: u8 w.sub.breach[30] :: u8 w.sub.breach[31] :: u32 w.sub.height :: i64 w.sub.tier :: w.sub.tx.v :: u8 w.id[0] :: u8 w.id[1] :: u8 w.id[2] :: u8 w.id[3] :: u8 w.id[4] :: u8 w.id[5] :: u8 w.id[6] :: u8 w.id[7] :: u8 w.id[8] :: u8 w.id[9] :: u8 w.id[10] :: u8 w.id[11] :: u8 w.id[12] :: u8 w.id[13] :: u8 w.id[14] :: u8 w.id[15] :: u8 w.id[16] :: u8 w.id[17] :: u8 w.id[18] :: u8 w.id[19] :: u8 w.id[20] :: u8 w.id[21] :: u8 w.id[22] :: u8 w.id[23] :: u8 w.id[24] :: u8 w.id[25] :: u8 w.id[26] :: u8 w.id[27] :: u8 w.id[28] :: u8 w.id[29] :: u8 w.id[30] :: u8 w.id[31] :: []))
def Wt.z : Wt := ⟨Sub.z, Id.z⟩
section
variable {P : Program} {S : Nat → Prop} {w0 w : World} {rs : List Res} {κ ν : Type} [DecidableEq κ] {enc : κ → Value} {val : ν → Value} {k e t : TypeId} {b : Nat} {l : List (κ × ν)} {ρ : Operand → Value} {o : Oper}
theorem rd_lookAt {g : Value → Prop} {m x : Operand} {ok : Bool} (hop : o.op = Op.lookup t m x ok) (h : Hp N0 w0 w rs) (hM0 : MapAt enc val w0 b l) (hm : ρ m = .map (some b)) (KE : KEnc P k enc) (ht : P.underlying t = some (.map k e)) {z : ν} (hz : zeroOf P e = some (val z)) (c : κ) (hx : ρ x = enc c) {v : ν} (hv : (l.lookup c).getD z = v)
    (hk : g (if ok then .tuple #[val v, .bool (l.lookup c).isSome] else val v)) : Rd P ρ o w g := by
  subst hv
  have hM : MapAt enc val w b l := hM0.keep0 h.chg
  refine ⟨_, fun w' hc => ?_, hk⟩
  obtain ⟨h1, h2⟩ := (hM.keep0 hc).look KE ht (fun W => run_zeroOf hz) c
  cases ok
  · simp [execOp, hop, hm, hx, h2]
  · simp [execOp, hop, hm, hx, h1]
theorem rd_lookV {g : Value → Prop} {S : Nat → Prop} {m x : Operand} (hop : o.op = Op.lookup t m x true) (h : Hp S w0 w rs) (j : Nat) (hj : rs[j]? = some (mapR enc val b l)) (hm : ρ m = .map (some b)) (KE : KEnc P k enc) (ht : P.underlying t = some (.map k e)) {z : ν} (hz : zeroOf P e = some (val z)) (c : κ) (hx : ρ x = enc c) {v : ν} (hv : (l.lookup c).getD z = v) {q : Bool} (hq : (l.lookup c).isSome = q)
    (hk : g (.tuple #[val v, .bool q])) : Rd P ρ o w g := by
  subst hv hq
  exact rd_look hop h j hj hm KE ht hz c hx hk
omit [DecidableEq κ] in
theorem gen_mlenAt {g : Value → World → Prop} {m : Operand} (hop : o.op = Op.call { callee := .builtin .len, args := #[m], argTypes := #[t] }) (h : Hp N0 w0 w rs) (hM0 : MapAt enc val w0 b l) (hm : ρ m = .map (some b)) (ht : P.underlying t = some (.map k e))
    (hk : g (.int .i64 l.length) w) : Gen P ρ o w g := by
  have hM : MapAt enc val w b l := hM0.keep0 h.chg
  have hrun := hM.len (ty := o.type) ht
  exact gen_v (by simp [execOp, hop, resolve, invoke, builtin, hm, hrun]) hk
end
theorem lookup_mem {κ ν : Type} [DecidableEq κ] {k : κ} {v : ν} : ∀ {l : List (κ × ν)}, l.lookup k = some v → (k, v) ∈ l
  | [], h => by simp at h
  | p :: l, h => by
    rw [List.lookup_cons] at h
    by_cases hk : k = p.1
    · have hb : (k == p.1) = true := by simpa using hk
      rw [hb] at h
      cases h
      subst hk
      simp
    · have hb : (k == p.1) = false := by simpa using hk
      rw [hb] at h
      exact List.mem_cons_of_mem _ (lookup_mem h)
/-- a submission in new memory -/
theorem pown_any {B : Nat} {w0 : World} (s : Sub) (h : SlAt B w0 u8L 1 s.tx) (hn : s.tx.l.length ≤ 1000000) : Calls Try.prog 112 #[s.v] w0 fun e w' => ∃ r : Bytes, r.l = s.tx.l ∧ e = .returned (Sub.v { s with tx := r }) ∧ Made (rowR 5 1 u8L r) w0 w' := by
  have hp := Hp.start (S := N0) w0
  have hB : ∀ b, N0 b → B ≤ b := fun _ hh => hh.elim
  refine calls_x (args := [_]) tabOk Try.func112 Try.ntmps112 Try.results112 rfl (Nat.le_of_ble_eq_true rfl) ?_
  ((conv => whnf); repeat' ((first | ((with_reducible refine br_id ?_); first | (with_reducible (first | refine br_t ?_ | refine br_f ?_ | refine br_not ?_)) | ((with_reducible (first | refine br_dec (fun hx => ?_) (fun hx => ?_) | refine br_eq (fun hx => ?_) (fun hx => ?_) | refine br_ne (fun hx => ?_) (fun hx => ?_) | refine br_s (fun hx => ?_) (fun hx => ?_))) <;> (try (exfalso; first | omega | exact absurd hx (by assumption) | exact absurd (by assumption) hx)))) | ((with_reducible refine ar_id ?_); first | (refine ar_i64 (by omega) ?_) | (refine ar_u32 (by omega) ?_) | (refine ar_u64 (by omega) ?_) | (refine ar_u8 (by omega) ?_)) | ((with_reducible refine cn_id ?_); first | (refine cn rfl ?_) | (refine cn (by assumption) ?_) | (refine cn (by omega) ?_) | (refine cn (Chg.refl _ _) ?_)) | ((with_reducible refine ld_id ?_); first | (apply ld_hs hp; (focus ((repeat (first | exact Has.here | apply Has.there)); done)); exact rfl) | (refine ld_of (by assumption) ?_)) | ((with_reducible refine ldn_id ?_); first | (apply lda_hs hp; (focus ((repeat (first | exact Has.here | apply Has.there)); done)); exact rfl) | (apply ldn_hs hp; (focus ((repeat (first | exact Has.here | apply Has.there)); done)); exact rfl; exact rfl)) | ((with_reducible refine al_id ?_); first | (refine al_cel hp ?_; clear hp; intro bb w hp)) | ((with_reducible refine st_id ?_); first | (apply sta_hs hp; (focus ((repeat (first | exact Has.here | apply Has.there)); done)); exact rfl; exact rfl; clear hp; intro w hp; (try dsimp only [List.set] at hp)) | (apply st_hs hp; (focus ((repeat (first | exact Has.here | apply Has.there)); done)); exact rfl; exact rfl; clear hp; intro w hp; (try dsimp only [List.set] at hp))) | ((with_reducible refine gen_id ?_); first | ((refine gen_app0 rfl hp el_u8 rfl s.tx rfl (h.keep hp.chg hB) (fun _ _ => rfl) u8_one (by omega) (by simp only [maxLen]; omega) ?_); clear hp; intro A1 c1 w hcc hp) | (apply gen_build; exact rfl; exact rfl) | (apply gen_len; exact rfl; exact rfl; assumption) | (apply gen_min; exact rfl; exact rfl; exact rfl) | (apply gen_max; exact rfl; exact rfl; exact rfl) | (apply gen_ix; exact rfl; exact rfl; exact rfl; exact rfl; omega) | (apply gen_ixa; exact rfl; exact rfl; exact rfl; exact rfl; omega)) | ((with_reducible refine dr_id ?_); first | (refine dr_auto tabOk (by kernel_rfl) (by decide +kernel) ?_; (try replace hp := hp.drew)) | (refine dr_autog tabOk (by kernel_rfl) (by decide +kernel) ?_; (try replace hp := hp.drew)) | (refine dr_autot tabOk (by kernel_rfl) (by decide +kernel) ?_; (try replace hp := hp.drew))) | ((with_reducible refine fk_id ?_); first | (refine fk_mk ?_ ?_)) | ((with_reducible refine rd_id ?_); first | (apply rd_len; exact rfl; exact rfl; assumption) | (apply rd_ix; exact rfl; exact rfl; exact rfl; exact rfl; omega))) <;> (conv => whnf)))
  exact ps_val (v' := Sub.v { s with tx := ⟨A1, c1, s.tx.l⟩ }) rfl ⟨⟨A1, c1, s.tx.l⟩, rfl, rfl, hp.made1 (j := 0) rfl⟩
abbrev ptxR (p : Key × Wt) : Res := rowR 5 1 u8L p.2.sub.tx
/-- a pool: its map's block, its entries, their bytes -/
abbrev poolRs (b m : Nat) (l : List (Key × Wt)) : List Res := cel b 165 #[.map (some m)] :: mapR Key.v Wt.v m l :: l.map ptxR
structure PoolAt (w : World) (b m : Nat) (l : List (Key × Wt)) : Prop where
  cell : w.cell? ⟨b, 0, none⟩ = some (.map (some m))
  map : MapAt Key.v Wt.v w m l
  tx : ∀ p ∈ l, SlAt w.heap.size w u8L 1 p.2.sub.tx
theorem poolAt {w : World} {b m : Nat} {l : List (Key × Wt)} (h : (star (poolRs b m l)).ok w) : PoolAt w b m l := by
  have hp := Hp.open h
  exact ⟨cell_of_heap (hp.cel_get (j := 0) rfl) rfl, mapR_ok.1 (hp.get (j := 1) rfl), fun p hm => rowR_at (e := 5) (hp.ok (ptxR p) (List.mem_cons_of_mem _ (List.mem_cons_of_mem _ (List.mem_map_of_mem hm))))⟩
theorem PoolAt.keep {w w' : World} {b m : Nat} {l : List (Key × Wt)} (h : PoolAt w b m l) (hc : Chg N0 w w') : PoolAt w' b m l :=
  ⟨hc.cell0 h.cell, h.map.keep0 hc, fun p hm => ((h.tx p hm).keep hc fun _ hh => hh.elim).more hc.size⟩
theorem pnone_any {w0 : World} {b m : Nat} (hc : w0.cell? ⟨b, 0, none⟩ = some (.map (some m))) : Calls Try.prog 111 #[ptr b] w0 fun e w' => e = .returned (.bool false) ∧ Chg N0 w0 w' := by
  have hp := Hp.start (S := N0) w0
  refine calls_x (args := [_]) tabOk Try.func111 Try.ntmps111 Try.results111 rfl (Nat.le_of_ble_eq_true rfl) ?_
  ((conv => whnf); repeat' ((first | ((with_reducible refine br_id ?_); first | (with_reducible (first | refine br_t ?_ | refine br_f ?_ | refine br_not ?_)) | ((with_reducible (first | refine br_dec (fun hx => ?_) (fun hx => ?_) | refine br_eq (fun hx => ?_) (fun hx => ?_) | refine br_ne (fun hx => ?_) (fun hx => ?_) | refine br_s (fun hx => ?_) (fun hx => ?_))) <;> (try (exfalso; first | omega | exact absurd hx (by assumption) | exact absurd (by assumption) hx)))) | ((with_reducible refine ar_id ?_); first | (refine ar_i64 (by omega) ?_) | (refine ar_u32 (by omega) ?_) | (refine ar_u64 (by omega) ?_) | (refine ar_u8 (by omega) ?_)) | ((with_reducible refine cn_id ?_); first | (refine cn rfl ?_) | (refine cn (by assumption) ?_) | (refine cn (by omega) ?_) | (refine cn (Chg.refl _ _) ?_)) | ((with_reducible refine ld_id ?_); first | ((refine ld_of (hp.chg.cell0 hc) ?_)) | (apply ld_hs hp; (focus ((repeat (first | exact Has.here | apply Has.there)); done)); exact rfl) | (refine ld_of (by assumption) ?_)) | ((with_reducible refine ldn_id ?_); first | (apply lda_hs hp; (focus ((repeat (first | exact Has.here | apply Has.there)); done)); exact rfl) | (apply ldn_hs hp; (focus ((repeat (first | exact Has.here | apply Has.there)); done)); exact rfl; exact rfl)) | ((with_reducible refine al_id ?_); first | (refine al_cel hp ?_; clear hp; intro bb w hp)) | ((with_reducible refine st_id ?_); first | (apply sta_hs hp; (focus ((repeat (first | exact Has.here | apply Has.there)); done)); exact rfl; exact rfl; clear hp; intro w hp; (try dsimp only [List.set] at hp)) | (apply st_hs hp; (focus ((repeat (first | exact Has.here | apply Has.there)); done)); exact rfl; exact rfl; clear hp; intro w hp; (try dsimp only [List.set] at hp))) | ((with_reducible refine gen_id ?_); first | (apply gen_build; exact rfl; exact rfl) | (apply gen_len; exact rfl; exact rfl; assumption) | (apply gen_min; exact rfl; exact rfl; exact rfl) | (apply gen_max; exact rfl; exact rfl; exact rfl) | (apply gen_ix; exact rfl; exact rfl; exact rfl; exact rfl; omega) | (apply gen_ixa; exact rfl; exact rfl; exact rfl; exact rfl; omega)) | ((with_reducible refine dr_id ?_); first | (refine dr_auto tabOk (by kernel_rfl) (by decide +kernel) ?_; (try replace hp := hp.drew)) | (refine dr_autog tabOk (by kernel_rfl) (by decide +kernel) ?_; (try replace hp := hp.drew)) | (refine dr_autot tabOk (by kernel_rfl) (by decide +kernel) ?_; (try replace hp := hp.drew))) | ((with_reducible refine fk_id ?_); first | (refine fk_mk ?_ ?_)) | ((with_reducible refine rd_id ?_); first | (apply rd_len; exact rfl; exact rfl; assumption) | (apply rd_ix; exact rfl; exact rfl; exact rfl; exact rfl; omega))) <;> (conv => whnf)))
  exact ps_val (v' := .bool false) rfl ⟨rfl, hp.chg⟩
theorem pnew_any {w0 : World} : Calls Try.prog 45 #[] w0 fun e w' => ∃ b m, e = .returned (ptr b) ∧ Made (star (poolRs b m [])) w0 w' := by
  have hp := Hp.start (S := N0) w0
  refine calls_x (args := []) tabOk Try.func45 Try.ntmps45 Try.results45 rfl (Nat.le_of_ble_eq_true rfl) ?_
  ((conv => whnf); repeat' ((first | ((with_reducible refine br_id ?_); first | (with_reducible (first | refine br_t ?_ | refine br_f ?_ | refine br_not ?_)) | ((with_reducible (first | refine br_dec (fun hx => ?_) (fun hx => ?_) | refine br_eq (fun hx => ?_) (fun hx => ?_) | refine br_ne (fun hx => ?_) (fun hx => ?_) | refine br_s (fun hx => ?_) (fun hx => ?_))) <;> (try (exfalso; first | omega | exact absurd hx (by assumption) | exact absurd (by assumption) hx)))) | ((with_reducible refine ar_id ?_); first | (refine ar_i64 (by omega) ?_) | (refine ar_u32 (by omega) ?_) | (refine ar_u64 (by omega) ?_) | (refine ar_u8 (by omega) ?_)) | ((with_reducible refine cn_id ?_); first | (refine cn rfl ?_) | (refine cn (by assumption) ?_) | (refine cn (by omega) ?_) | (refine cn (Chg.refl _ _) ?_)) | ((with_reducible refine ld_id ?_); first | (apply ld_hs hp; (focus ((repeat (first | exact Has.here | apply Has.there)); done)); exact rfl) | (refine ld_of (by assumption) ?_)) | ((with_reducible refine ldn_id ?_); first | (apply lda_hs hp; (focus ((repeat (first | exact Has.here | apply Has.there)); done)); exact rfl) | (apply ldn_hs hp; (focus ((repeat (first | exact Has.here | apply Has.there)); done)); exact rfl; exact rfl)) | ((with_reducible refine al_id ?_); first | (refine al_cel hp ?_; clear hp; intro bb w hp)) | ((with_reducible refine st_id ?_); first | (apply sta_hs hp; (focus ((repeat (first | exact Has.here | apply Has.there)); done)); exact rfl; exact rfl; clear hp; intro w hp; (try dsimp only [List.set] at hp)) | (apply st_hs hp; (focus ((repeat (first | exact Has.here | apply Has.there)); done)); exact rfl; exact rfl; clear hp; intro w hp; (try dsimp only [List.set] at hp))) | ((with_reducible refine gen_id ?_); first | ((refine gen_mmake rfl Key.v Wt.v hp ?_); clear hp; intro bb w hp) | (apply gen_build; exact rfl; exact rfl) | (apply gen_len; exact rfl; exact rfl; assumption) | (apply gen_min; exact rfl; exact rfl; exact rfl) | (apply gen_max; exact rfl; exact rfl; exact rfl) | (apply gen_ix; exact rfl; exact rfl; exact rfl; exact rfl; omega) | (apply gen_ixa; exact rfl; exact rfl; exact rfl; exact rfl; omega)) | ((with_reducible refine dr_id ?_); first | (refine dr_auto tabOk (by kernel_rfl) (by decide +kernel) ?_; (try replace hp := hp.drew)) | (refine dr_autog tabOk (by kernel_rfl) (by decide +kernel) ?_; (try replace hp := hp.drew)) | (refine dr_autot tabOk (by kernel_rfl) (by decide +kernel) ?_; (try replace hp := hp.drew))) | ((with_reducible refine fk_id ?_); first | (refine fk_mk ?_ ?_)) | ((with_reducible refine rd_id ?_); first | (apply rd_len; exact rfl; exact rfl; assumption) | (apply rd_ix; exact rfl; exact rfl; exact rfl; exact rfl; omega))) <;> (conv => whnf)))
  exact ps_of ⟨_, _, rfl, hp.made (.refl _)⟩
theorem plen_any {w0 : World} {b m : Nat} {l : List (Key × Wt)} (h : PoolAt w0 b m l) : Calls Try.prog 57 #[ptr b] w0 fun e w' => e = .returned (i64 l.length) ∧ Chg N0 w0 w' := by
  have hp := Hp.start (S := N0) w0
  refine calls_x (args := [_]) tabOk Try.func57 Try.ntmps57 Try.results57 rfl (Nat.le_of_ble_eq_true rfl) ?_
  ((conv => whnf); repeat' ((first | ((with_reducible refine br_id ?_); first | (with_reducible (first | refine br_t ?_ | refine br_f ?_ | refine br_not ?_)) | ((with_reducible (first | refine br_dec (fun hx => ?_) (fun hx => ?_) | refine br_eq (fun hx => ?_) (fun hx => ?_) | refine br_ne (fun hx => ?_) (fun hx => ?_) | refine br_s (fun hx => ?_) (fun hx => ?_))) <;> (try (exfalso; first | omega | exact absurd hx (by assumption) | exact absurd (by assumption) hx)))) | ((with_reducible refine ar_id ?_); first | (refine ar_i64 (by omega) ?_) | (refine ar_u32 (by omega) ?_) | (refine ar_u64 (by omega) ?_) | (refine ar_u8 (by omega) ?_)) | ((with_reducible refine cn_id ?_); first | (refine cn rfl ?_) | (refine cn (by assumption) ?_) | (refine cn (by omega) ?_) | (refine cn (Chg.refl _ _) ?_)) | ((with_reducible refine ld_id ?_); first | ((refine ld_of (hp.chg.cell0 h.cell) ?_)) | (apply ld_hs hp; (focus ((repeat (first | exact Has.here | apply Has.there)); done)); exact rfl) | (refine ld_of (by assumption) ?_)) | ((with_reducible refine ldn_id ?_); first | (apply lda_hs hp; (focus ((repeat (first | exact Has.here | apply Has.there)); done)); exact rfl) | (apply ldn_hs hp; (focus ((repeat (first | exact Has.here | apply Has.there)); done)); exact rfl; exact rfl)) | ((with_reducible refine al_id ?_); first | (refine al_cel hp ?_; clear hp; intro bb w hp)) | ((with_reducible refine st_id ?_); first | (apply sta_hs hp; (focus ((repeat (first | exact Has.here | apply Has.there)); done)); exact rfl; exact rfl; clear hp; intro w hp; (try dsimp only [List.set] at hp)) | (apply st_hs hp; (focus ((repeat (first | exact Has.here | apply Has.there)); done)); exact rfl; exact rfl; clear hp; intro w hp; (try dsimp only [List.set] at hp))) | ((with_reducible refine gen_id ?_); first | ((refine gen_mlenAt rfl hp h.map rfl Try.underlying163 ?_)) | (apply gen_build; exact rfl; exact rfl) | (apply gen_len; exact rfl; exact rfl; assumption) | (apply gen_min; exact rfl; exact rfl; exact rfl) | (apply gen_max; exact rfl; exact rfl; exact rfl) | (apply gen_ix; exact rfl; exact rfl; exact rfl; exact rfl; omega) | (apply gen_ixa; exact rfl; exact rfl; exact rfl; exact rfl; omega)) | ((with_reducible refine dr_id ?_); first | (refine dr_auto tabOk (by kernel_rfl) (by decide +kernel) ?_; (try replace hp := hp.drew)) | (refine dr_autog tabOk (by kernel_rfl) (by decide +kernel) ?_; (try replace hp := hp.drew)) | (refine dr_autot tabOk (by kernel_rfl) (by decide +kernel) ?_; (try replace hp := hp.drew))) | ((with_reducible refine fk_id ?_); first | (refine fk_mk ?_ ?_)) | ((with_reducible refine cl_id ?_); first | ((refine cl_eq ((pnone_any (hp.chg.cell0 h.cell))) rfl rfl ?_; rintro e w ⟨rfl, hcc⟩; replace hp := hp.call0 hcc; refine ⟨_, rfl, ?_⟩))) | ((with_reducible refine rd_id ?_); first | (apply rd_len; exact rfl; exact rfl; assumption) | (apply rd_ix; exact rfl; exact rfl; exact rfl; exact rfl; omega))) <;> (conv => whnf)))
  exact ps_val (v' := i64 l.length) rfl ⟨rfl, hp.chg⟩
theorem pget_any {w0 : World} {b m : Nat} {l : List (Key × Wt)} (h : PoolAt w0 b m l) (k : Key) (hl : ∀ p ∈ l, p.2.sub.tx.l.length ≤ 1000000) : Calls Try.prog 58 #[ptr b, k.v] w0 fun e w' =>
    ∃ r : Bytes, r.l = ((l.lookup k).getD Wt.z).sub.tx.l ∧ e = .returned (.tuple #[Sub.v { ((l.lookup k).getD Wt.z).sub with tx := r }, .bool (l.lookup k).isSome]) ∧ Made (rowR 5 1 u8L r) w0 w' := by
  have hp := Hp.start (S := N0) w0
  obtain ⟨x, hx⟩ : ∃ x, (l.lookup k).getD Wt.z = x := ⟨_, rfl⟩
  have hxa : SlAt w0.heap.size w0 u8L 1 x.sub.tx ∧ x.sub.tx.l.length ≤ 1000000 := by
    cases hlk : l.lookup k with
    | none =>
      rw [hlk] at hx
      have : x = Wt.z := hx.symm
      rw [this]
      exact ⟨.none_, by simp [Wt.z, Sub.z, Sl.nil]⟩
    | some y =>
      rw [hlk] at hx
      have hy : y = x := hx
      subst hy
      have hm : (k, y) ∈ l := lookup_mem hlk
      exact ⟨h.tx _ hm, hl _ hm⟩
  rw [hx]
  have hB : ∀ b, N0 b → w0.heap.size ≤ b := fun _ hh => hh.elim
  refine calls_x (args := [_, _]) tabOk Try.func58 Try.ntmps58 Try.results58 rfl (Nat.le_of_ble_eq_true rfl) ?_
  ((conv => whnf); repeat' ((first | ((with_reducible refine br_id ?_); first | (with_reducible (first | refine br_t ?_ | refine br_f ?_ | refine br_not ?_)) | ((with_reducible (first | refine br_dec (fun hx => ?_) (fun hx => ?_) | refine br_eq (fun hx => ?_) (fun hx => ?_) | refine br_ne (fun hx => ?_) (fun hx => ?_) | refine br_s (fun hx => ?_) (fun hx => ?_))) <;> (try (exfalso; first | omega | exact absurd hx (by assumption) | exact absurd (by assumption) hx)))) | ((with_reducible refine ar_id ?_); first | (refine ar_i64 (by omega) ?_) | (refine ar_u32 (by omega) ?_) | (refine ar_u64 (by omega) ?_) | (refine ar_u8 (by omega) ?_)) | ((with_reducible refine cn_id ?_); first | (refine cn rfl ?_) | (refine cn (by assumption) ?_) | (refine cn (by omega) ?_) | (refine cn (Chg.refl _ _) ?_)) | ((with_reducible refine ld_id ?_); first | ((refine ld_of (hp.chg.cell0 h.cell) ?_)) | (apply ld_hs hp; (focus ((repeat (first | exact Has.here | apply Has.there)); done)); exact rfl) | (refine ld_of (by assumption) ?_)) | ((with_reducible refine ldn_id ?_); first | (apply lda_hs hp; (focus ((repeat (first | exact Has.here | apply Has.there)); done)); exact rfl) | (apply ldn_hs hp; (focus ((repeat (first | exact Has.here | apply Has.there)); done)); exact rfl; exact rfl)) | ((with_reducible refine al_id ?_); first | (refine al_cel hp ?_; clear hp; intro bb w hp)) | ((with_reducible refine st_id ?_); first | (apply sta_hs hp; (focus ((repeat (first | exact Has.here | apply Has.there)); done)); exact rfl; exact rfl; clear hp; intro w hp; (try dsimp only [List.set] at hp)) | (apply st_hs hp; (focus ((repeat (first | exact Has.here | apply Has.there)); done)); exact rfl; exact rfl; clear hp; intro w hp; (try dsimp only [List.set] at hp))) | ((with_reducible refine gen_id ?_); first | (apply gen_build; exact rfl; exact rfl) | (apply gen_len; exact rfl; exact rfl; assumption) | (apply gen_min; exact rfl; exact rfl; exact rfl) | (apply gen_max; exact rfl; exact rfl; exact rfl) | (apply gen_ix; exact rfl; exact rfl; exact rfl; exact rfl; omega) | (apply gen_ixa; exact rfl; exact rfl; exact rfl; exact rfl; omega)) | ((with_reducible refine dr_id ?_); first | (refine dr_auto tabOk (by kernel_rfl) (by decide +kernel) ?_; (try replace hp := hp.drew)) | (refine dr_autog tabOk (by kernel_rfl) (by decide +kernel) ?_; (try replace hp := hp.drew)) | (refine dr_autot tabOk (by kernel_rfl) (by decide +kernel) ?_; (try replace hp := hp.drew))) | ((with_reducible refine fk_id ?_); first | (refine fk_mk ?_ ?_)) | ((with_reducible refine cl_id ?_); first | ((refine cl_eq ((pnone_any (hp.chg.cell0 h.cell))) rfl rfl ?_; rintro e w ⟨rfl, hcc⟩; replace hp := hp.call0 hcc; refine ⟨_, rfl, ?_⟩))) | ((with_reducible refine rd_id ?_); first | ((refine rd_lookAt rfl hp h.map rfl keyK Try.underlying163 (z := Wt.z) rfl k rfl hx ?_)) | (apply rd_len; exact rfl; exact rfl; assumption) | (apply rd_ix; exact rfl; exact rfl; exact rfl; exact rfl; omega))) <;> (conv => whnf)))
  refine cl_eq (pown_any x.sub (hxa.1.keep hp.chg hB) hxa.2) rfl rfl ?_
  rintro e w ⟨r, hr, rfl, hm⟩
  replace hp := hp.add hm
  clear hm
  refine ⟨_, rfl, ?_⟩
  ((conv => whnf); repeat' ((first | ((with_reducible refine br_id ?_); first | (with_reducible (first | refine br_t ?_ | refine br_f ?_ | refine br_not ?_)) | ((with_reducible (first | refine br_dec (fun hx => ?_) (fun hx => ?_) | refine br_eq (fun hx => ?_) (fun hx => ?_) | refine br_ne (fun hx => ?_) (fun hx => ?_) | refine br_s (fun hx => ?_) (fun hx => ?_))) <;> (try (exfalso; first | omega | exact absurd hx (by assumption) | exact absurd (by assumption) hx)))) | ((with_reducible refine ar_id ?_); first | (refine ar_i64 (by omega) ?_) | (refine ar_u32 (by omega) ?_) | (refine ar_u64 (by omega) ?_) | (refine ar_u8 (by omega) ?_)) | ((with_reducible refine cn_id ?_); first | (refine cn rfl ?_) | (refine cn (by assumption) ?_) | (refine cn (by omega) ?_) | (refine cn (Chg.refl _ _) ?_)) | ((with_reducible refine ld_id ?_); first | (apply ld_hs hp; (focus ((repeat (first | exact Has.here | apply Has.there)); done)); exact rfl) | (refine ld_of (by assumption) ?_)) | ((with_reducible refine ldn_id ?_); first | (apply lda_hs hp; (focus ((repeat (first | exact Has.here | apply Has.there)); done)); exact rfl) | (apply ldn_hs hp; (focus ((repeat (first | exact Has.here | apply Has.there)); done)); exact rfl; exact rfl)) | ((with_reducible refine al_id ?_); first | (refine al_cel hp ?_; clear hp; intro bb w hp)) | ((with_reducible refine st_id ?_); first | (apply sta_hs hp; (focus ((repeat (first | exact Has.here | apply Has.there)); done)); exact rfl; exact rfl; clear hp; intro w hp; (try dsimp only [List.set] at hp)) | (apply st_hs hp; (focus ((repeat (first | exact Has.here | apply Has.there)); done)); exact rfl; exact rfl; clear hp; intro w hp; (try dsimp only [List.set] at hp))) | ((with_reducible refine gen_id ?_); first | (apply gen_build; exact rfl; exact rfl) | (apply gen_len; exact rfl; exact rfl; assumption) | (apply gen_min; exact rfl; exact rfl; exact rfl) | (apply gen_max; exact rfl; exact rfl; exact rfl) | (apply gen_ix; exact rfl; exact rfl; exact rfl; exact rfl; omega) | (apply gen_ixa; exact rfl; exact rfl; exact rfl; exact rfl; omega)) | ((with_reducible refine dr_id ?_); first | (refine dr_auto tabOk (by kernel_rfl) (by decide +kernel) ?_; (try replace hp := hp.drew)) | (refine dr_autog tabOk (by kernel_rfl) (by decide +kernel) ?_; (try replace hp := hp.drew)) | (refine dr_autot tabOk (by kernel_rfl) (by decide +kernel) ?_; (try replace hp := hp.drew))) | ((with_reducible refine fk_id ?_); first | (refine fk_mk ?_ ?_)) | ((with_reducible refine rd_id ?_); first | (apply rd_len; exact rfl; exact rfl; assumption) | (apply rd_ix; exact rfl; exact rfl; exact rfl; exact rfl; omega))) <;> (conv => whnf)))
  exact ps_val (v' := .tuple #[Sub.v { x.sub with tx := r }, .bool (l.lookup k).isSome]) rfl ⟨r, hr, rfl, hp.made1 (j := 0) rfl⟩
def sendE (l : List (Key × Wt)) (s : Sub) : Nat :=
  if s.tx.l.length < 1 ∨ 64 < s.tx.l.length then 1 else if (l.lookup s.key).isSome = true ∧ ((l.lookup s.key).getD Wt.z).sub.tx.l = s.tx.l then 6 else 0
theorem mput_rows {κ ν β : Type} [DecidableEq κ] (f : κ × ν → β) (k : κ) (v : ν) : ∀ {l : List (κ × ν)}, (l.map (·.1)).Nodup → ∃ m, (f (k, v) :: l.map f).Perm (m ++ (mput l k v).map f)
  | [], _ => ⟨[], by simp [mput]⟩
  | p :: l, hn => by
    rw [List.map_cons, List.nodup_cons] at hn
    by_cases hk : p.1 = k
    · refine ⟨[f p], ?_⟩
      have h1 : mput (p :: l) k v = (k, v) :: l := by
        unfold mput
        rw [if_pos (by simp [hk])]
        have h2 : ∀ q ∈ l, (if q.1 = k then (k, v) else q) = q := fun q hq => by
          rw [if_neg]
          intro e
          exact hn.1 (hk ▸ e ▸ List.mem_map_of_mem (f := fun x : κ × ν => x.1) hq)
        rw [List.map_cons, if_pos hk, List.map_congr_left h2, List.map_id']
      rw [h1]
      exact .swap ..
    · obtain ⟨m, hm⟩ := mput_rows f k v hn.2
      have h1 : mput (p :: l) k v = p :: mput l k v := by
        unfold mput
        by_cases hkl : k ∈ l.map (·.1)
        · rw [if_pos hkl, if_pos (by rw [List.map_cons]; exact List.mem_cons_of_mem _ hkl), List.map_cons, if_neg hk]
        · rw [if_neg hkl, if_neg (by rw [List.map_cons, List.mem_cons]; exact fun h => h.elim (fun e => hk e.symm) hkl)]
          rfl
      refine ⟨m, ?_⟩
      rw [h1, List.map_cons, List.map_cons]
      exact ((List.Perm.swap ..).trans (hm.cons _)).trans (List.perm_middle).symm
end Go.Proofs.Ythcapeihhldpcaa
