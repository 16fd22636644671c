/- MImprintRests29: HintUK2, HintUK3, Shelf. -/
import Derived.Test.YteabebmlclgakaaGreatMImprintRests28
import Derived.Test.YteabebmlclgakaaGreatMImprintRests27
import Derived.Test.YteabebmlclgakaaGreatMImprintRests16
import Derived.Test.YteabebmlclgakaaGreatMImprintRests7
/- HintUK2: an index: notes, strikes. -/
namespace Go.Proofs.YteabebmlclgakaaGreat
set_option linter.unusedSimpArgs false
set_option linter.unusedVariables false
open Go.RowKit
set_option maxRecDepth 100000
set_option maxHeartbeats 2000000
theorem inoteUK {w0 : World} {b m : Nat} {l : List (UInt32 × Sl Key)} {n : Int} (h : (star (iRsUK b m l n)).ok w0) (k : UInt32) (v : Key) (hn : (idx l k).l.length ≤ 100000) (hn2 : -1000000 ≤ n ∧ n ≤ 1000000) : Calls Tryz.prog 190 #[ptr b, u32 k, Key.v v] w0 fun e w' =>
    (v ∈ (idx l k).l ∧ e = .returned (.bool false) ∧ Chg N0 w0 w') ∨ (v ∉ (idx l k).l ∧ e = .returned (.bool true) ∧ ∃ s' : Sl Key, s'.l = (idx l k).l ++ [v] ∧ Mut (star (iRsUK b m l n)) (star (iRsUK b m (mput l k s') (n + 1))) w0 w') := by
  have hI := idxAt h
  by_cases hv : v ∈ (idx l k).l
  · have hp := Hp.start (S := N0) w0
    have hhas : ∀ {w : World}, Chg N0 w0 w → Calls Tryz.prog 223 #[ptr b, u32 k, Key.v v] w fun e w' => e = .returned (.bool true) ∧ Chg N0 w w' := fun hc => by
      have := ihasUK ((star (iRsUK b m l n)).keep0 h hc) k v (by omega)
      rwa [decide_eq_true hv] at this
    refine calls_x (args := [_, _, _]) tabOk Tryz.func190 Tryz.ntmps190 Tryz.results190 rfl (Nat.le_of_ble_eq_true rfl) ?_
    ((conv => whnf); repeat' ((first | ((with_reducible refine br_id ?_); first | (with_reducible refine br_t ?_) | (with_reducible refine br_f ?_)) | ((with_reducible refine ldn_id ?_); (apply lda_hs hp; (focus ((repeat (first | exact Has.here | apply Has.there)); done)); exact rfl)) | ((with_reducible refine al_id ?_); (refine al_cel hp ?_; clear hp; intro bb w hp)) | ((with_reducible refine cl_id ?_); first | ((refine cl_eq ((inoneUK (hp.chg.cell0 hI.c0))) rfl rfl ?_; rintro e w ⟨rfl, hcc⟩; replace hp := hp.call0 hcc; refine ⟨_, rfl, ?_⟩)) | ((refine cl_eq ((hhas hp.chg)) rfl rfl ?_; rintro e w ⟨rfl, hcc⟩; replace hp := hp.call0 hcc; refine ⟨_, rfl, ?_⟩)))) <;> (conv => whnf)))
    exact ps_val (v' := .bool false) rfl (.inl ⟨hv, rfl, hp.chg⟩)
  · have hp := Hp.open h
    have hhas : ∀ {w : World} {c : List Res}, Hp (star (iRsUK b m l n)).dom w0 w (c ++ iRsUK b m l n) → Calls Tryz.prog 223 #[ptr b, u32 k, Key.v v] w fun e w' => e = .returned (.bool false) ∧ Chg N0 w w' := fun {w c} hp => by
      have h1 : (star (iRsUK b m l n)).ok w := (hp.sub (List.sublist_append_right c _)).fold1.get (j := 0) rfl
      have := ihasUK h1 k v (by omega)
      rwa [decide_eq_false hv] at this
    skip
    refine calls_x (args := [_, _, _]) tabOk Tryz.func190 Tryz.ntmps190 Tryz.results190 rfl (Nat.le_of_ble_eq_true rfl) ?_
    ((conv => whnf); repeat' ((first | ((with_reducible refine br_id ?_); first | (with_reducible refine br_f ?_) | ((with_reducible refine br_ne (fun hx => ?_) (fun hx => ?_)) <;> (try (exfalso; first | omega | exact absurd hx (by assumption) | exact absurd (by assumption) hx)))) | ((with_reducible refine ldn_id ?_); (apply lda_hs hp; (focus ((repeat (first | exact Has.here | apply Has.there)); done)); exact rfl)) | ((with_reducible refine al_id ?_); (refine al_cel hp ?_; clear hp; intro bb w hp)) | ((with_reducible refine cl_id ?_); first | ((refine cl_eq ((inoneUK (cell_of_heap (hp.cel_get (j := 1) rfl) rfl))) rfl rfl ?_; rintro e w ⟨rfl, hcc⟩; replace hp := hp.call0 hcc; refine ⟨_, rfl, ?_⟩)) | ((refine cl_eq ((hhas (c := [_]) hp)) rfl rfl ?_; rintro e w ⟨rfl, hcc⟩; replace hp := hp.call0 hcc; refine ⟨_, rfl, ?_⟩)))) <;> (conv => whnf)))
    obtain ⟨rest, hp, hperm, -⟩ := idx_out (c := [_]) k hp
    have hl1 := (hp.row (j := 0) rfl).le
    refine dr_autos [1, 2, 3, 4] 13 tabOk (by kernel_rfl) (by decide +kernel) ?_
    replace hp := hp.drew
    ((conv => whnf); repeat' ((first | ((with_reducible refine ar_id ?_); (refine ar_i64 (by omega) ?_)) | ((with_reducible refine cn_id ?_); first | (refine cn rfl ?_) | (refine cn (Chg.refl _ _) ?_)) | ((with_reducible refine ld_id ?_); (apply ld_hs hp; (focus ((repeat (first | exact Has.here | apply Has.there)); done)); exact rfl)) | ((with_reducible refine ldn_id ?_); (apply lda_hs hp; (focus ((repeat (first | exact Has.here | apply Has.there)); done)); exact rfl)) | ((with_reducible refine st_id ?_); (apply st_hs hp; (focus ((repeat (first | exact Has.here | apply Has.there)); done)); exact rfl; exact rfl; clear hp; intro w hp; (try dsimp only [List.set] at hp))) | ((with_reducible refine gen_id ?_); first | ((refine gen_bs rfl hp el_key Key.c [v] [Key.v v] rfl rfl rfl (fun _ hh => by simp at hh; subst hh; rfl) (by omega) ?_); clear hp; intro br w hp) | ((refine gen_app (s := idx l k) rfl hp 1 rfl el_key rfl ⟨some ⟨br, 0, none⟩, 1, [v]⟩ rfl (hp.row (j := 0) rfl) (fun _ _ => rfl) key_one (by simp only [List.length_cons, List.length_nil]; omega) (by simp only [maxLen, List.length_cons, List.length_nil]; omega) ?_); clear hp; intro A2 c2 w hp; dsimp only [List.set] at hp) | ((refine gen_put rfl hp 4 rfl rfl (u32_enc Tryz.underlying24) Tryz.underlying263 k rfl (⟨A2, c2, (idx l k).l ++ [v]⟩ : Sl Key) rfl ?_); clear hp; intro w hp; dsimp only [List.set] at hp)) | ((with_reducible refine fk_id ?_); (refine fk_mk ?_ ?_)) | ((with_reducible refine rd_id ?_); ((refine rd_look rfl hp 3 rfl rfl (u32_enc Tryz.underlying24) Tryz.underlying263 (z := Sl.nil) rfl k rfl ?_)))) <;> (conv => whnf)))
    all_goals
      have hp3 := idx_back (l' := mput l k ⟨A2, c2, (idx l k).l ++ [v]⟩) (c := [_]) hp.tail (hperm ⟨A2, c2, (idx l k).l ++ [v]⟩)
      exact ps_val (v' := .bool true) rfl (.inr ⟨hv, rfl, ⟨A2, c2, (idx l k).l ++ [v]⟩, rfl, hp3.shut (List.sublist_append_right _ _)⟩)
end Go.Proofs.YteabebmlclgakaaGreat
/- HintUK3: an index: strikes. -/
namespace Go.Proofs.YteabebmlclgakaaGreat
set_option linter.unusedSimpArgs false
set_option linter.unusedVariables false
open Go.RowKit
set_option maxRecDepth 100000
set_option maxHeartbeats 2000000
end Go.Proofs.YteabebmlclgakaaGreat
/- Shelf: blobs, entries, shelves; small contracts. No condition. -/
namespace Go.Proofs.YteabebmlclgakaaGreat
set_option linter.unusedSimpArgs false
set_option linter.unusedVariables false
open Go.RowKit
set_option maxRecDepth 100000
set_option maxHeartbeats 2000000
structure Ent where
  blob : Blob
  place : Int
abbrev Ent.c (x : Ent) : List Value := (u32 x.blob.key.ses :: u32 x.blob.key.seq :: u8 x.blob.hint[0] :: u8 x.blob.hint[1] :: u8 x.blob.hint[2] :: u8 x.blob.hint[3] :: u8 x.blob.hint[4] :: u8 x.blob.hint[5] :: u8 x.blob.hint[6] :: u8 x.blob.hint[7] :: u8 x.blob.hint[8] :: u8 x.blob.hint[9] :: u8 x.blob.hint[10] :: u8 x.blob.hint[11] :: u8 x.blob.hint[12] :: u8 x.blob.hint[13] :: u8 x.blob.hint[14] :: u8 x.blob.hint[15] :: x.blob.data.v :: i64 x.place :: [])
abbrev Ent.v (x : Ent) : Value := .agg (List.toArray (u32 x.blob.key.ses :: u32 x.blob.key.seq :: u8 x.blob.hint[0] :: u8 x.blob.hint[1] :: u8 x.blob.hint[2] :: u8 x.blob.hint[3] :: u8 x.blob.hint[4] :: u8 x.blob.hint[5] :: u8 x.blob.hint[6] :: u8 x.blob.hint[7] :: u8 x.blob.hint[8] :: u8 x.blob.hint[9] :: u8 x.blob.hint[10] :: u8 x.blob.hint[11] :: u8 x.blob.hint[12] :: u8 x.blob.hint[13] :: u8 x.blob.hint[14] :: u8 x.blob.hint[15] :: x.blob.data.v :: i64 x.place :: []))
def Ent.z : Ent := ⟨Blob.z, 0⟩
theorem fld_ent (x : Ent) (w : World) : (Instr.field 209 x.v 0).run Tryz.prog w = .ok x.blob.v w := by kernel_rfl
theorem fld_hint (x : Blob) (w : World) : (Instr.field 40 x.v 2).run Tryz.prog w = .ok x.hint.v w := by kernel_rfl
theorem rd_fld {P : Program} {ρ : Operand → Value} {o : Oper} {w : World} {g : Value → Prop} {t : TypeId} {x : Operand} {i : Nat} (hop : o.op = .field t x i) {v0 v : Value} (hx : ρ x = v0) (h : ∀ w, (Instr.field t v0 i).run P w = .ok v w) (hk : g v) : Rd P ρ o w g := by
  refine ⟨v, fun w' _ => ?_, hk⟩
  simp [execOp, hop, hx, h]
theorem rd_lookM2 {P : Program} {w : World} {κ ν : Type} [DecidableEq κ] {enc : κ → Value} {val : ν → Value} {k e t : TypeId} {b : Nat} {l : List (κ × ν)} {ρ : Operand → Value} {o : Oper} {g : Value → Prop} {m x : Operand} (hop : o.op = Op.lookup t m x true) (hM : MapAt enc val w b l) (hm : ρ m = .map (some b)) (KE : KEnc P k enc) (ht : P.underlying t = some (.map k e)) {z : ν} (hz : zeroOf P e = some (val z)) (c : κ) (hx : ρ x = enc c) {v : ν} (hv : (l.lookup c).getD z = v) {q : Bool} (hq : (l.lookup c).isSome = q)
    (hk : g (.tuple #[val v, .bool q])) : Rd P ρ o w g := by
  subst hq
  exact rd_lookM hop hM hm KE ht hz c hx hv hk
/-- a shelf's parts -/
structure Shf where
  hb : Nat
  hm : Nat
  lh : List (Hint × Sl Key)
  nh : Int
  mb : Nat
  mm : Nat
  lm : List (UInt32 × Sl Key)
  nm : Int
  am : Nat
  la : List (Key × Ent)
  next : Int
  bytes : Int
abbrev shC (g : Shf) : Array Value := #[ptr g.hb, ptr g.mb, .map (some g.am), i64 g.next, i64 g.bytes]
abbrev entR (p : Key × Ent) : Res := rowR 5 1 u8L p.2.blob.data
abbrev shRs (b : Nat) (g : Shf) : List Res := cel b 178 (shC g) :: star (iRsHK g.hb g.hm g.lh g.nh) :: star (iRsUK g.mb g.mm g.lm g.nm) :: mapR Key.v Ent.v g.am g.la :: g.la.map entR
/-- a blob in new memory -/
theorem shown_any {B : Nat} {w0 : World} (x : Blob) (h : SlAt B w0 u8L 1 x.data) (hn : x.data.l.length ≤ 1000000) : Calls Tryz.prog 140 #[x.v] w0 fun e w' => ∃ r : Bytes, r.l = x.data.l ∧ e = .returned (Blob.v { x with data := r }) ∧ Made (rowR 5 1 u8L r) w0 w' := by
  have hp := Hp.start (S := N0) w0
  have hB : ∀ b, N0 b → B ≤ b := fun _ hh => hh.elim
  refine calls_x (args := [_]) tabOk Tryz.func140 Tryz.ntmps140 Tryz.results140 rfl (Nat.le_of_ble_eq_true rfl) ?_
  ((conv => whnf); repeat' ((first | ((with_reducible refine cn_id ?_); (refine cn rfl ?_)) | ((with_reducible refine ld_id ?_); (apply ld_hs hp; (focus ((repeat (first | exact Has.here | apply Has.there)); done)); exact rfl)) | ((with_reducible refine ldn_id ?_); (apply lda_hs hp; (focus ((repeat (first | exact Has.here | apply Has.there)); done)); exact rfl)) | ((with_reducible refine al_id ?_); (refine al_cel hp ?_; clear hp; intro bb w hp)) | ((with_reducible refine st_id ?_); first | (apply sta_hs hp; (focus ((repeat (first | exact Has.here | apply Has.there)); done)); exact rfl; exact rfl; clear hp; intro w hp; (try dsimp only [List.set] at hp)) | (apply st_hs hp; (focus ((repeat (first | exact Has.here | apply Has.there)); done)); exact rfl; exact rfl; clear hp; intro w hp; (try dsimp only [List.set] at hp))) | ((with_reducible refine gen_id ?_); ((refine gen_app0 rfl hp el_u8 rfl x.data rfl (h.keep hp.chg hB) (fun _ _ => rfl) u8_one (by omega) (by simp only [maxLen]; omega) ?_); clear hp; intro A1 c1 w hcc hp))) <;> (conv => whnf)))
  exact ps_val (v' := Blob.v { x with data := ⟨A1, c1, x.data.l⟩ }) rfl ⟨⟨A1, c1, x.data.l⟩, rfl, rfl, hp.made1 (j := 0) rfl⟩
theorem shnone_any {w0 : World} {b m : Nat} (hc : w0.cell? ⟨b, 2, none⟩ = some (.map (some m))) : Calls Tryz.prog 137 #[ptr b] w0 fun e w' => e = .returned (.bool false) ∧ Chg N0 w0 w' := by
  have hp := Hp.start (S := N0) w0
  refine calls_x (args := [_]) tabOk Tryz.func137 Tryz.ntmps137 Tryz.results137 rfl (Nat.le_of_ble_eq_true rfl) ?_
  ((conv => whnf); repeat' ((first | ((with_reducible refine br_id ?_); (with_reducible refine br_f ?_)) | ((with_reducible refine ld_id ?_); ((refine ld_of (hp.chg.cell0 hc) ?_)))) <;> (conv => whnf)))
  exact ps_val (v' := .bool false) rfl ⟨rfl, hp.chg⟩
theorem shnew_any {w0 : World} : Calls Tryz.prog 64 #[] w0 fun e w' => ∃ b hb hm mb mm am, e = .returned (ptr b) ∧ Made (star (shRs b ⟨hb, hm, [], 0, mb, mm, [], 0, am, [], 0, 0⟩)) w0 w' := by
  have hp := Hp.start (S := N0) w0
  refine calls_x (args := []) tabOk Tryz.func64 Tryz.ntmps64 Tryz.results64 rfl (Nat.le_of_ble_eq_true rfl) ?_
  ((conv => whnf); repeat' ((first | ((with_reducible refine br_id ?_); first | (with_reducible refine br_t ?_) | (with_reducible refine br_f ?_) | (with_reducible refine br_not ?_) | ((with_reducible refine br_dec (fun hx => ?_) (fun hx => ?_)) <;> (try (exfalso; first | omega | exact absurd hx (by assumption) | exact absurd (by assumption) hx))) | ((with_reducible refine br_eq (fun hx => ?_) (fun hx => ?_)) <;> (try (exfalso; first | omega | exact absurd hx (by assumption) | exact absurd (by assumption) hx))) | ((with_reducible refine br_ne (fun hx => ?_) (fun hx => ?_)) <;> (try (exfalso; first | omega | exact absurd hx (by assumption) | exact absurd (by assumption) hx))) | ((with_reducible refine br_s (fun hx => ?_) (fun hx => ?_)) <;> (try (exfalso; first | omega | exact absurd hx (by assumption) | exact absurd (by assumption) hx)))) | ((with_reducible refine ar_id ?_); first | (refine ar_i64 (by omega) ?_) | (refine ar_u32 (by omega) ?_) | (refine ar_u64 (by omega) ?_) | (refine ar_u8 (by omega) ?_)) | ((with_reducible refine cn_id ?_); first | (refine cn rfl ?_) | (refine cn (by assumption) ?_) | (refine cn (by omega) ?_) | (refine cn (Chg.refl _ _) ?_)) | ((with_reducible refine ld_id ?_); first | (apply ld_hs hp; (focus ((repeat (first | exact Has.here | apply Has.there)); done)); exact rfl) | (refine ld_of (by assumption) ?_)) | ((with_reducible refine ldn_id ?_); first | (apply lda_hs hp; (focus ((repeat (first | exact Has.here | apply Has.there)); done)); exact rfl) | (apply ldn_hs hp; (focus ((repeat (first | exact Has.here | apply Has.there)); done)); exact rfl; exact rfl)) | ((with_reducible refine al_id ?_); (refine al_cel hp ?_; clear hp; intro bb w hp)) | ((with_reducible refine st_id ?_); first | (apply sta_hs hp; (focus ((repeat (first | exact Has.here | apply Has.there)); done)); exact rfl; exact rfl; clear hp; intro w hp; (try dsimp only [List.set] at hp)) | (apply st_hs hp; (focus ((repeat (first | exact Has.here | apply Has.there)); done)); exact rfl; exact rfl; clear hp; intro w hp; (try dsimp only [List.set] at hp))) | ((with_reducible refine gen_id ?_); first | (apply gen_build; exact rfl; exact rfl) | (apply gen_len; exact rfl; exact rfl; assumption) | (apply gen_min; exact rfl; exact rfl; exact rfl) | (apply gen_max; exact rfl; exact rfl; exact rfl) | (apply gen_ix; exact rfl; exact rfl; exact rfl; exact rfl; omega) | (apply gen_ixa; exact rfl; exact rfl; exact rfl; exact rfl; omega)) | ((with_reducible refine dr_id ?_); first | (refine dr_auto tabOk (by kernel_rfl) (by decide +kernel) ?_; (try replace hp := hp.drew)) | (refine dr_autog tabOk (by kernel_rfl) (by decide +kernel) ?_; (try replace hp := hp.drew)) | (refine dr_autot tabOk (by kernel_rfl) (by decide +kernel) ?_; (try replace hp := hp.drew))) | ((with_reducible refine fk_id ?_); (refine fk_mk ?_ ?_)) | ((with_reducible refine rd_id ?_); first | (apply rd_len; exact rfl; exact rfl; assumption) | (apply rd_ix; exact rfl; exact rfl; exact rfl; exact rfl; omega))) <;> (conv => whnf)))
  refine cl_of inewHK ?_
  rintro e w ⟨hb, hm, rfl, hmd⟩
  replace hp := hp.add hmd
  clear hmd
  refine ⟨_, rfl, ?_⟩
  ((conv => whnf); repeat' ((first | ((with_reducible refine br_id ?_); first | (with_reducible refine br_t ?_) | (with_reducible refine br_f ?_) | (with_reducible refine br_not ?_) | ((with_reducible refine br_dec (fun hx => ?_) (fun hx => ?_)) <;> (try (exfalso; first | omega | exact absurd hx (by assumption) | exact absurd (by assumption) hx))) | ((with_reducible refine br_eq (fun hx => ?_) (fun hx => ?_)) <;> (try (exfalso; first | omega | exact absurd hx (by assumption) | exact absurd (by assumption) hx))) | ((with_reducible refine br_ne (fun hx => ?_) (fun hx => ?_)) <;> (try (exfalso; first | omega | exact absurd hx (by assumption) | exact absurd (by assumption) hx))) | ((with_reducible refine br_s (fun hx => ?_) (fun hx => ?_)) <;> (try (exfalso; first | omega | exact absurd hx (by assumption) | exact absurd (by assumption) hx)))) | ((with_reducible refine ar_id ?_); first | (refine ar_i64 (by omega) ?_) | (refine ar_u32 (by omega) ?_) | (refine ar_u64 (by omega) ?_) | (refine ar_u8 (by omega) ?_)) | ((with_reducible refine cn_id ?_); first | (refine cn rfl ?_) | (refine cn (by assumption) ?_) | (refine cn (by omega) ?_) | (refine cn (Chg.refl _ _) ?_)) | ((with_reducible refine ld_id ?_); first | (apply ld_hs hp; (focus ((repeat (first | exact Has.here | apply Has.there)); done)); exact rfl) | (refine ld_of (by assumption) ?_)) | ((with_reducible refine ldn_id ?_); first | (apply lda_hs hp; (focus ((repeat (first | exact Has.here | apply Has.there)); done)); exact rfl) | (apply ldn_hs hp; (focus ((repeat (first | exact Has.here | apply Has.there)); done)); exact rfl; exact rfl)) | ((with_reducible refine al_id ?_); (refine al_cel hp ?_; clear hp; intro bb w hp)) | ((with_reducible refine st_id ?_); first | (apply sta_hs hp; (focus ((repeat (first | exact Has.here | apply Has.there)); done)); exact rfl; exact rfl; clear hp; intro w hp; (try dsimp only [List.set] at hp)) | (apply st_hs hp; (focus ((repeat (first | exact Has.here | apply Has.there)); done)); exact rfl; exact rfl; clear hp; intro w hp; (try dsimp only [List.set] at hp))) | ((with_reducible refine gen_id ?_); first | (apply gen_build; exact rfl; exact rfl) | (apply gen_len; exact rfl; exact rfl; assumption) | (apply gen_min; exact rfl; exact rfl; exact rfl) | (apply gen_max; exact rfl; exact rfl; exact rfl) | (apply gen_ix; exact rfl; exact rfl; exact rfl; exact rfl; omega) | (apply gen_ixa; exact rfl; exact rfl; exact rfl; exact rfl; omega)) | ((with_reducible refine dr_id ?_); first | (refine dr_auto tabOk (by kernel_rfl) (by decide +kernel) ?_; (try replace hp := hp.drew)) | (refine dr_autog tabOk (by kernel_rfl) (by decide +kernel) ?_; (try replace hp := hp.drew)) | (refine dr_autot tabOk (by kernel_rfl) (by decide +kernel) ?_; (try replace hp := hp.drew))) | ((with_reducible refine fk_id ?_); (refine fk_mk ?_ ?_)) | ((with_reducible refine rd_id ?_); first | (apply rd_len; exact rfl; exact rfl; assumption) | (apply rd_ix; exact rfl; exact rfl; exact rfl; exact rfl; omega))) <;> (conv => whnf)))
  refine cl_of inewUK ?_
  rintro e w ⟨mb, mm, rfl, hmd⟩
  replace hp := hp.add hmd
  clear hmd
  refine ⟨_, rfl, ?_⟩
  ((conv => whnf); repeat' ((first | ((with_reducible refine al_id ?_); (refine al_cel hp ?_; clear hp; intro bb w hp)) | ((with_reducible refine gen_id ?_); first | ((refine gen_mmake rfl Key.v Ent.v hp ?_); clear hp; intro am w hp) | (apply gen_build; exact rfl; exact rfl))) <;> (conv => whnf)))
  exact ps_val (v' := ptr bb) rfl ⟨bb, hb, hm, mb, mm, am, rfl, (hp.perm (.cons _ (perm321 ..))).made (.refl _)⟩
def byKey (W : List BlP) (k : Key) : Option BlP := W.find? fun y => decide (y.key = k)
structure ShI (g : Shf) (W : List BlP) : Prop where
  nodup : (W.map (·.key)).Nodup
  hints : ∀ h, (idx g.lh h).l = (W.filter fun y => decide (y.hint = h)).map (·.key)
  mine : ∀ s, (idx g.lm s).l = (W.filter fun y => decide (y.key.ses = s)).map (·.key)
  all : ∀ k, (mlk g.la k).map (·.blob.p) = byKey W k
  len : g.la.length = W.length
  nh : g.nh = W.length
  nm : g.nm = W.length
  bytes : g.bytes = ((W.map (·.bytes.length)).sum : Nat)
  data : ∀ y ∈ W, y.bytes.length ≤ 600
  many : W.length ≤ 10000
  next : 0 ≤ g.next ∧ g.next ≤ 100000
  ord : ∃ pl : Key → Int, (∀ k e, mlk g.la k = some e → e.place = pl k) ∧ W.Pairwise (fun x y => pl x.key < pl y.key) ∧ ∀ y ∈ W, 0 ≤ pl y.key ∧ pl y.key < g.next
end Go.Proofs.YteabebmlclgakaaGreat
