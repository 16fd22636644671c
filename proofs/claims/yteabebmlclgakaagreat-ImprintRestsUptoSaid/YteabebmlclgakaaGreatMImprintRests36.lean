/- MImprintRests36: BlobSame, Blk3. -/
import Derived.Test.YteabebmlclgakaaGreatMImprintRests7
import Derived.Test.YteabebmlclgakaaGreatMImprintRests23
import Derived.Test.YteabebmlclgakaaGreatMImprintRests14
import Derived.Test.YteabebmlclgakaaGreatMImprintRests10
/- BlobSame: the document's comparison of lists of blobs. No condition. -/
namespace Go.Proofs.YteabebmlclgakaaGreat
set_option linter.unusedSimpArgs false
set_option linter.unusedVariables false
open Go.RowKit
set_option maxRecDepth 100000
set_option maxHeartbeats 2000000
theorem p_ne {p q : List Blob} {i : Nat} {x y : Blob} (hx : p[i]? = some x) (hy : q[i]? = some y) (h : x.p ≠ y.p) : decide (p.map (·.p) = q.map (·.p)) = false := by
  rw [decide_eq_false_iff_not]
  intro hh
  have := congrArg (·[i]?) hh
  simp [hx, hy] at this
  exact h this
theorem rsame25_any {B : Nat} {w0 : World} {p q : Sl Blob} (h : BlobsAt B w0 p) (k : BlobsAt B w0 q) : Calls Tryz.prog 50 #[p.v, q.v] w0 fun e w' => e = .returned (.bool (decide (p.l.map (·.p) = q.l.map (·.p)))) ∧ Chg N0 w0 w' := by
  have hp := Hp.start (S := N0) w0
  have hB : ∀ b, N0 b → B ≤ b := fun _ hh => hh.elim
  have us := Tryz.underlying28
  have u2 := Tryz.underlying38
  have hmax : p.l.length ≤ 9223372036854775807 := by have := h.row.le; have := h.row.max; simp only [maxLen] at this; omega
  have hmaq : q.l.length ≤ 9223372036854775807 := by have := k.row.le; have := k.row.max; simp only [maxLen] at this; omega
  refine calls_x (args := [_, _]) tabOk Tryz.func50 Tryz.ntmps50 Tryz.results50 rfl (Nat.le_of_ble_eq_true rfl) ?_
  ((conv => whnf); repeat' ((first | ((with_reducible refine br_id ?_); ((with_reducible refine br_ne (fun hx => ?_) (fun hx => ?_)) <;> (try (exfalso; first | omega | exact absurd hx (by assumption) | exact absurd (by assumption) hx)))) | ((with_reducible refine gen_id ?_); (apply gen_len; exact rfl; exact rfl; assumption))) <;> (conv => whnf)))
  · exact ps_val (v' := .bool false) rfl ⟨by rw [decide_eq_false fun e => by have e := congrArg List.length e; rw [List.length_map, List.length_map] at e; omega], hp.chg⟩
  have hpq : p.l.length = q.l.length := by omega
  refine lp_inv (α := Nat) (fun i => [(0, p.v), (1, q.v), (5, i64 i)]) (fun i w => i ≤ p.l.length ∧ (p.l.take i).map (·.p) = (q.l.take i).map (·.p) ∧ Hp N0 w0 w []) (fun i => p.l.length - i) 0 (by (repeat' (first | exact trivial | (refine ⟨rfl, ?_⟩)))) ⟨by omega, by simp, hp⟩ ?_
  clear hp
  rintro i e0 w ⟨hi, hall, hp⟩
  dsimp only at hi hall hp ⊢
  rcases Nat.lt_or_ge i p.l.length with hlt | hge
  · obtain ⟨b, o, x, hA, hb, hrow, hxx⟩ := h.row.has hlt
    obtain ⟨b', o', y, hA', hb', hrow', hyy⟩ := k.row.has (show i < q.l.length by omega)
    have hiq : (i : Int) < q.l.length := by omega
    have hmx := h.data x (List.mem_of_getElem? hxx)
    have hmy := k.data y (List.mem_of_getElem? hyy)
    have hx2 : ((Blob.c x).drop 2).take 16 = Hint.c x.hint := rfl
    have hy2 : ((Blob.c y).drop 2).take 16 = Hint.c y.hint := rfl
    have hx18 : (Blob.c x)[18]? = some (Sl.v x.data) := rfl
    have hy18 : (Blob.c y)[18]? = some (Sl.v y.data) := rfl
    by_cases h1 : x.key.ses = y.key.ses ∧ x.key.seq = y.key.seq
    · obtain ⟨h1, h2⟩ := h1
      have e1 : (x.key.ses.toNat : Int) = y.key.ses.toNat := by rw [h1]
      have e2 : (x.key.seq.toNat : Int) = y.key.seq.toNat := by rw [h2]
      by_cases h3 : x.hint = y.hint
      · have hq : EqIs Tryz.prog 37 x.hint.v y.hint.v true := by have := eq_hint x.hint y.hint; rwa [decide_eq_true h3] at this
        have hbn : (if BinOp.neq = BinOp.eql then true else !true) = false := rfl
        by_cases h4 : x.data.l = y.data.l
        · have hbs : (if BinOp.neq = BinOp.eql then decide (x.data.l = y.data.l) else !decide (x.data.l = y.data.l)) = false := by rw [decide_eq_true h4]; rfl
          ((conv => whnf); repeat' ((first | ((with_reducible refine br_id ?_); first | ((with_reducible refine br_0 hbn ?_)) | ((with_reducible refine br_0 hbs ?_)) | (with_reducible refine br_f ?_) | ((with_reducible refine br_dec (fun hx => ?_) (fun hx => ?_)) <;> (try (exfalso; first | omega | exact absurd hx (by assumption) | exact absurd (by assumption) hx))) | ((with_reducible refine br_ne (fun hx => ?_) (fun hx => ?_)) <;> (try (exfalso; first | omega | exact absurd hx (by assumption) | exact absurd (by assumption) hx)))) | ((with_reducible refine ar_id ?_); (refine ar_i64 (by omega) ?_)) | ((with_reducible refine ld_id ?_); ((refine ld_row hp hB (by assumption) (by assumption) _ _ rfl (by assumption) (by rfl) ?_))) | ((with_reducible refine ldn_id ?_); ((refine ldn_row hp hB (by assumption) (by assumption) _ _ rfl (by assumption) (by rfl) (by rfl) ?_))) | ((with_reducible refine gen_id ?_); (apply gen_len; exact rfl; exact rfl; assumption)) | ((with_reducible refine dr_id ?_); (refine dr_auto tabOk (by kernel_rfl) (by decide +kernel) ?_; (try replace hp := hp.drew))) | ((with_reducible refine rd_id ?_); first | ((refine rd_ixs rfl rfl (by assumption) rfl rfl (by omega) ?_)) | ((refine rd_b2s rfl (hmx.keep hp.chg hB) u2 Tryz.underlying5 Tryz.underlying9 rfl ?_)) | ((refine rd_b2s rfl (hmy.keep hp.chg hB) u2 Tryz.underlying5 Tryz.underlying9 rfl ?_)) | ((refine rd_streq rfl (a := x.data.l) (b := y.data.l) rfl rfl (.inr rfl) ?_)) | ((refine rd_eqa rfl rfl rfl hq (by kernel_rfl) (.inr rfl) ?_)))) <;> (conv => whnf)))
          have hxy : x.p = y.p := by
            obtain ⟨⟨a1, a2⟩, a3, a4⟩ := x
            obtain ⟨⟨c1, c2⟩, c3, c4⟩ := y
            show BlP.mk _ _ _ = BlP.mk _ _ _
            rw [show a1 = c1 from h1, show a2 = c2 from h2, show a3 = c3 from h3, show a4.l = c4.l from h4]
          all_goals first
            | exact absurd e1 hx
            | exact absurd e2 hx
            | exact lp_next (i + 1) (by show p.l.length - (i + 1) < p.l.length - i; omega) (by (repeat' (first | exact trivial | (refine ⟨rfl, ?_⟩)))) ⟨by show i + 1 ≤ _; omega, by show (p.l.take (i + 1)).map _ = (q.l.take (i + 1)).map _; rw [List.take_add_one, List.take_add_one, hxx, hyy, List.map_append, List.map_append, hall]; simp [hxy], hp⟩
        · have hbs : (if BinOp.neq = BinOp.eql then decide (x.data.l = y.data.l) else !decide (x.data.l = y.data.l)) = true := by rw [decide_eq_false h4]; rfl
          ((conv => whnf); repeat' ((first | ((with_reducible refine br_id ?_); first | ((with_reducible refine br_0 hbn ?_)) | ((with_reducible refine br_1 hbs ?_)) | (with_reducible refine br_f ?_) | ((with_reducible refine br_dec (fun hx => ?_) (fun hx => ?_)) <;> (try (exfalso; first | omega | exact absurd hx (by assumption) | exact absurd (by assumption) hx))) | ((with_reducible refine br_ne (fun hx => ?_) (fun hx => ?_)) <;> (try (exfalso; first | omega | exact absurd hx (by assumption) | exact absurd (by assumption) hx)))) | ((with_reducible refine ld_id ?_); ((refine ld_row hp hB (by assumption) (by assumption) _ _ rfl (by assumption) (by rfl) ?_))) | ((with_reducible refine ldn_id ?_); ((refine ldn_row hp hB (by assumption) (by assumption) _ _ rfl (by assumption) (by rfl) (by rfl) ?_))) | ((with_reducible refine gen_id ?_); (apply gen_len; exact rfl; exact rfl; assumption)) | ((with_reducible refine dr_id ?_); (refine dr_auto tabOk (by kernel_rfl) (by decide +kernel) ?_; (try replace hp := hp.drew))) | ((with_reducible refine rd_id ?_); first | ((refine rd_ixs rfl rfl (by assumption) rfl rfl (by omega) ?_)) | ((refine rd_b2s rfl (hmx.keep hp.chg hB) u2 Tryz.underlying5 Tryz.underlying9 rfl ?_)) | ((refine rd_b2s rfl (hmy.keep hp.chg hB) u2 Tryz.underlying5 Tryz.underlying9 rfl ?_)) | ((refine rd_streq rfl (a := x.data.l) (b := y.data.l) rfl rfl (.inr rfl) ?_)) | ((refine rd_eqa rfl rfl rfl hq (by kernel_rfl) (.inr rfl) ?_)))) <;> (conv => whnf)))
          all_goals first
            | exact absurd e1 hx
            | exact absurd e2 hx
            | exact ps_val (v' := .bool false) rfl ⟨by rw [p_ne hxx hyy fun e => h4 (congrArg BlP.bytes e)], hp.chg⟩
      · have hq : EqIs Tryz.prog 37 x.hint.v y.hint.v false := by have := eq_hint x.hint y.hint; rwa [decide_eq_false h3] at this
        have hbn : (if BinOp.neq = BinOp.eql then false else !false) = true := rfl
        ((conv => whnf); repeat' ((first | ((with_reducible refine br_id ?_); first | ((with_reducible refine br_1 hbn ?_)) | (with_reducible refine br_t ?_) | (with_reducible refine br_f ?_) | ((with_reducible refine br_dec (fun hx => ?_) (fun hx => ?_)) <;> (try (exfalso; first | omega | exact absurd hx (by assumption) | exact absurd (by assumption) hx))) | ((with_reducible refine br_ne (fun hx => ?_) (fun hx => ?_)) <;> (try (exfalso; first | omega | exact absurd hx (by assumption) | exact absurd (by assumption) hx)))) | ((with_reducible refine ld_id ?_); ((refine ld_row hp hB (by assumption) (by assumption) _ _ rfl (by assumption) (by rfl) ?_))) | ((with_reducible refine ldn_id ?_); ((refine ldn_row hp hB (by assumption) (by assumption) _ _ rfl (by assumption) (by rfl) (by rfl) ?_))) | ((with_reducible refine gen_id ?_); (apply gen_len; exact rfl; exact rfl; assumption)) | ((with_reducible refine dr_id ?_); (refine dr_auto tabOk (by kernel_rfl) (by decide +kernel) ?_; (try replace hp := hp.drew))) | ((with_reducible refine rd_id ?_); first | ((refine rd_ixs rfl rfl (by assumption) rfl rfl (by omega) ?_)) | ((refine rd_eqa rfl rfl rfl hq (by kernel_rfl) (.inr rfl) ?_)))) <;> (conv => whnf)))
        all_goals first
          | exact absurd e1 hx
          | exact absurd e2 hx
          | exact ps_val (v' := .bool false) rfl ⟨by rw [p_ne hxx hyy fun e => h3 (congrArg BlP.hint e)], hp.chg⟩
    · have hne : x.p ≠ y.p := fun e => h1 (by have h2 : x.key = y.key := congrArg BlP.key e; rw [h2]; exact ⟨rfl, rfl⟩)
      have hne2 : ¬ ((x.key.ses.toNat : Int) = y.key.ses.toNat ∧ (x.key.seq.toNat : Int) = y.key.seq.toNat) := fun ⟨a, b⟩ => h1 ⟨UInt32.toNat_inj.1 (Int.ofNat.inj a), UInt32.toNat_inj.1 (Int.ofNat.inj b)⟩
      ((conv => whnf); repeat' ((first | ((with_reducible refine br_id ?_); first | (with_reducible refine br_t ?_) | (with_reducible refine br_f ?_) | ((with_reducible refine br_dec (fun hx => ?_) (fun hx => ?_)) <;> (try (exfalso; first | omega | exact absurd hx (by assumption) | exact absurd (by assumption) hx))) | ((with_reducible refine br_ne (fun hx => ?_) (fun hx => ?_)) <;> (try (exfalso; first | omega | exact absurd hx (by assumption) | exact absurd (by assumption) hx)))) | ((with_reducible refine ld_id ?_); ((refine ld_row hp hB (by assumption) (by assumption) _ _ rfl (by assumption) (by rfl) ?_))) | ((with_reducible refine gen_id ?_); (apply gen_len; exact rfl; exact rfl; assumption)) | ((with_reducible refine dr_id ?_); (refine dr_auto tabOk (by kernel_rfl) (by decide +kernel) ?_; (try replace hp := hp.drew))) | ((with_reducible refine rd_id ?_); ((refine rd_ixs rfl rfl (by assumption) rfl rfl (by omega) ?_)))) <;> (conv => whnf)))
      all_goals exact ps_val (v' := .bool false) rfl ⟨by rw [p_ne hxx hyy hne], hp.chg⟩
  · rw [List.take_of_length_le hge, List.take_of_length_le (by omega)] at hall
    ((conv => whnf); repeat' ((first | ((with_reducible refine br_id ?_); ((with_reducible refine br_dec (fun hx => ?_) (fun hx => ?_)) <;> (try (exfalso; first | omega | exact absurd hx (by assumption) | exact absurd (by assumption) hx)))) | ((with_reducible refine gen_id ?_); (apply gen_len; exact rfl; exact rfl; assumption))) <;> (conv => whnf)))
    exact ps_val (v' := .bool true) rfl ⟨by rw [decide_eq_true hall], hp.chg⟩
end Go.Proofs.YteabebmlclgakaaGreat
/- Block (3): the document's answers about blocks: whether one may be, whether two are the same. -/
namespace Go.Proofs.YteabebmlclgakaaGreat
set_option linter.unusedSimpArgs false
set_option linter.unusedVariables false
open Go.RowKit
set_option maxRecDepth 100000
set_option maxHeartbeats 2000000
theorem rightRef_any {B : Nat} {w0 : World} {b : Blk} (h : SlAt B w0 Id.c 32 b.tx) : Calls Tryz.prog 96 #[b.v] w0 fun e w' => e = .returned (.bool (rightB b)) ∧ Chg N0 w0 w' := by
  have hp := Hp.start (S := N0) w0
  have hB : ∀ b, N0 b → B ≤ b := fun _ hh => hh.elim
  have hmax : b.tx.l.length ≤ 9223372036854775807 := by have := h.le; have := h.max; simp only [maxLen] at this; omega
  have u1 := Tryz.underlying52
  refine calls_x (args := [_]) tabOk Tryz.func96 Tryz.ntmps96 Tryz.results96 rfl (Nat.le_of_ble_eq_true rfl) ?_
  ((conv => whnf); repeat' (((with_reducible refine al_id ?_); (refine al_cel hp ?_; clear hp; intro bb w hp)) <;> (conv => whnf)))
  refine lp_inv (α := Nat) (fun a => [(1, ptr bb), (3, errno a)]) (fun a w => a ≤ b.tx.l.length ∧ (b.tx.l.take a).Nodup ∧ Hp N0 w0 w [cel bb 54 b.c.toArray]) (fun a => b.tx.l.length - a) 0 (by (repeat' (first | exact trivial | (refine ⟨rfl, ?_⟩)))) ⟨by omega, by simp, hp⟩ ?_
  clear hp
  rintro i e0 w ⟨hi, hnd, hp⟩
  dsimp only at hi hnd hp ⊢
  rcases Nat.lt_or_ge i b.tx.l.length with hlt | hge
  · obtain ⟨b1, o, x, hA, hb1, hrow, hxx⟩ := h.has hlt
    have htk : b.tx.l.take (i + 1) = b.tx.l.take i ++ [x] := by rw [List.take_add_one, hxx]; rfl
    ((conv => whnf); repeat' ((first | ((with_reducible refine br_id ?_); ((with_reducible refine br_dec (fun hx => ?_) (fun hx => ?_)) <;> (try (exfalso; first | omega | exact absurd hx (by assumption) | exact absurd (by assumption) hx)))) | ((with_reducible refine ld_id ?_); (apply ld_hs hp; (focus ((repeat (first | exact Has.here | apply Has.there)); done)); exact rfl)) | ((with_reducible refine gen_id ?_); (apply gen_len; exact rfl; exact rfl; assumption))) <;> (conv => whnf)))
    refine lp_inv (α := Nat) (fun a => [(1, ptr bb), (3, errno i), (4, errno a)]) (fun a w => a ≤ i ∧ (∀ y ∈ b.tx.l.take a, y ≠ x) ∧ Hp N0 w0 w [cel bb 54 b.c.toArray]) (fun a => i - a) 0 (by (repeat' (first | exact trivial | (refine ⟨rfl, ?_⟩)))) ⟨by omega, by simp, hp⟩ ?_
    clear hp
    rintro k e1 w ⟨hk, hne, hp⟩
    dsimp only at hk hne hp ⊢
    rcases Nat.lt_or_ge k i with hlt2 | hge2
    · have hyy : b.tx.l[k]? = some b.tx.l[k] := List.getElem?_eq_getElem (by omega)
      generalize b.tx.l[k] = y at hyy
      ((conv => whnf); repeat' ((first | ((with_reducible refine br_id ?_); first | ((with_reducible refine br_dec (fun hx => ?_) (fun hx => ?_)) <;> (try (exfalso; first | omega | exact absurd hx (by assumption) | exact absurd (by assumption) hx))) | ((with_reducible refine br_s (fun hx => ?_) (fun hx => ?_)) <;> (try (exfalso; first | omega | exact absurd hx (by assumption) | exact absurd (by assumption) hx)))) | ((with_reducible refine ar_id ?_); (refine ar_i64 (by omega) ?_)) | ((with_reducible refine ld_id ?_); (apply ld_hs hp; (focus ((repeat (first | exact Has.here | apply Has.there)); done)); exact rfl)) | ((with_reducible refine ldn_id ?_); ((refine ldn_rowx hp hB (by assumption) (by assumption) _ rfl (by assumption) rfl ?_))) | ((with_reducible refine dr_id ?_); (refine dr_auto tabOk (by kernel_rfl) (by decide +kernel) ?_; (try replace hp := hp.drew))) | ((with_reducible refine rd_id ?_); first | ((refine rd_ixs rfl rfl (by assumption) rfl rfl (by omega) ?_)) | ((refine rd_eqa rfl rfl rfl (eq_id y x) (by kernel_rfl) (.inl rfl) ?_)))) <;> (conv => whnf)))
      · refine ps_val (v' := .bool false) rfl ⟨?_, hp.chg⟩
        have hyx : y = x := by simpa using hx
        have h1 : rightB b = false := by
          unfold rightB
          have : x ∈ b.tx.l.take i := by
            rw [← hyx]
            refine List.mem_of_getElem? (i := k) ?_
            rw [List.getElem?_take_of_lt hlt2, hyy]
          rw [decide_eq_false (dup_of hxx this), Bool.and_false]
        rw [h1]
      · refine lp_next (k + 1) ?_ (by (repeat' (first | exact trivial | (refine ⟨rfl, ?_⟩)))) ⟨by omega, ?_, hp⟩
        · show i - (k + 1) < i - k; omega
        · intro z hz
          rw [List.take_add_one, hyy] at hz
          rcases List.mem_append.1 hz with hz | hz
          · exact hne z hz
          · simp at hz
            subst hz
            simpa using hx
    · ((conv => whnf); repeat' ((first | ((with_reducible refine br_id ?_); ((with_reducible refine br_dec (fun hx => ?_) (fun hx => ?_)) <;> (try (exfalso; first | omega | exact absurd hx (by assumption) | exact absurd (by assumption) hx)))) | ((with_reducible refine ar_id ?_); (refine ar_i64 (by omega) ?_))) <;> (conv => whnf)))
      obtain rfl : k = i := by omega
      refine lp_next (k + 1) ?_ (by (repeat' (first | exact trivial | (refine ⟨rfl, ?_⟩)))) ⟨by omega, ?_, hp⟩
      · show b.tx.l.length - (k + 1) < b.tx.l.length - k; omega
      · rw [htk]
        exact nodup_next hnd fun hh => hne x hh rfl
  · rw [List.take_of_length_le hge] at hnd
    ((conv => whnf); repeat' ((first | ((with_reducible refine br_id ?_); first | (with_reducible refine br_t ?_) | (with_reducible refine br_f ?_) | ((with_reducible refine br_dec (fun hx => ?_) (fun hx => ?_)) <;> (try (exfalso; first | omega | exact absurd hx (by assumption) | exact absurd (by assumption) hx)))) | ((with_reducible refine ld_id ?_); (apply ld_hs hp; (focus ((repeat (first | exact Has.here | apply Has.there)); done)); exact rfl)) | ((with_reducible refine ldn_id ?_); (apply ldn_hs hp; (focus ((repeat (first | exact Has.here | apply Has.there)); done)); exact rfl; exact rfl)) | ((with_reducible refine gen_id ?_); first | ((refine gen_eqa rfl rfl rfl (eq_id b.hash b.parent) (by kernel_rfl) (.inr rfl) ?_)) | (apply gen_len; exact rfl; exact rfl; assumption))) <;> (conv => whnf)))
    · refine ps_val (v' := .bool (!decide (b.hash = b.parent))) rfl ⟨?_, hp.chg⟩
      have h1 : rightB b = (!decide (b.hash = b.parent)) := by
        unfold rightB
        rw [decide_eq_true hnd, Bool.and_true, decide_eq_true (show b.tx.l.length ≤ 32 by omega), Bool.true_and]
      rw [h1]
    · refine ps_val (v' := .bool false) rfl ⟨?_, hp.chg⟩
      have h1 : rightB b = false := by
        unfold rightB
        rw [decide_eq_false (show ¬ b.tx.l.length ≤ 32 by omega)]
        rfl
      rw [h1]
theorem same09_any {B : Nat} {w0 : World} {s r : Sl Id} (h : SlAt B w0 Id.c 32 s) (h' : SlAt B w0 Id.c 32 r) : Calls Tryz.prog 179 #[s.v, r.v] w0 fun e w' => e = .returned (.bool (decide (s.l = r.l))) ∧ Chg N0 w0 w' := by
  have hp := Hp.start (S := N0) w0
  have hB : ∀ b, N0 b → B ≤ b := fun _ hh => hh.elim
  have hmax : s.l.length ≤ 9223372036854775807 := by have := h.le; have := h.max; simp only [maxLen] at this; omega
  have hmax' : r.l.length ≤ 9223372036854775807 := by have := h'.le; have := h'.max; simp only [maxLen] at this; omega
  have u1 := Tryz.underlying52
  refine calls_x (args := [_, _]) tabOk Tryz.func179 Tryz.ntmps179 Tryz.results179 rfl (Nat.le_of_ble_eq_true rfl) ?_
  ((conv => whnf); repeat' ((first | ((with_reducible refine br_id ?_); ((with_reducible refine br_ne (fun hx => ?_) (fun hx => ?_)) <;> (try (exfalso; first | omega | exact absurd hx (by assumption) | exact absurd (by assumption) hx)))) | ((with_reducible refine gen_id ?_); (apply gen_len; exact rfl; exact rfl; assumption))) <;> (conv => whnf)))
  · have hne : ¬ s.l = r.l := fun e => by rw [e] at hx; exact hx rfl
    refine ps_val (v' := .bool false) rfl ⟨?_, hp.chg⟩
    rw [decide_eq_false hne]
  have hll : s.l.length = r.l.length := by omega
  refine lp_inv (α := Nat) (fun a => [(0, s.v), (1, r.v), (5, errno a)]) (fun a w => a ≤ s.l.length ∧ s.l.take a = r.l.take a ∧ Chg N0 w0 w) (fun a => s.l.length - a) 0 (by (repeat' (first | exact trivial | (refine ⟨rfl, ?_⟩)))) ⟨by omega, by simp, hp.chg⟩ ?_
  clear hp
  rintro i e0 w ⟨hi, heq, hc⟩
  dsimp only at hi heq hc ⊢
  have hp := (Hp.start (S := N0) w0).call0 hc
  rcases Nat.lt_or_ge i s.l.length with hlt | hge
  · obtain ⟨b, o, x, hA, hb, hrow, hxx⟩ := h.has hlt
    obtain ⟨b', o', x', hA', hb', hrow', hxx'⟩ := h'.has (i := i) (by omega)
    ((conv => whnf); repeat' ((first | ((with_reducible refine br_id ?_); first | ((with_reducible refine br_dec (fun hx => ?_) (fun hx => ?_)) <;> (try (exfalso; first | omega | exact absurd hx (by assumption) | exact absurd (by assumption) hx))) | ((with_reducible refine br_s (fun hx => ?_) (fun hx => ?_)) <;> (try (exfalso; first | omega | exact absurd hx (by assumption) | exact absurd (by assumption) hx)))) | ((with_reducible refine ar_id ?_); (refine ar_i64 (by omega) ?_)) | ((with_reducible refine ldn_id ?_); first | ((refine ldn_rowx hp hB hb hrow _ rfl hxx rfl ?_)) | ((refine ldn_rowx hp hB hb' hrow' _ rfl hxx' rfl ?_))) | ((with_reducible refine gen_id ?_); (apply gen_len; exact rfl; exact rfl; assumption)) | ((with_reducible refine dr_id ?_); (refine dr_auto tabOk (by kernel_rfl) (by decide +kernel) ?_; (try replace hp := hp.drew))) | ((with_reducible refine rd_id ?_); first | ((refine rd_ixs rfl rfl hA rfl rfl (by omega) ?_)) | ((refine rd_ixs rfl rfl hA' rfl rfl (by omega) ?_)) | ((refine rd_eqa rfl rfl rfl (eq_id x x') (by kernel_rfl) (.inr rfl) ?_)))) <;> (conv => whnf)))
    · have hne : ¬ s.l = r.l := fun e => by
        rw [e, hxx'] at hxx
        cases hxx
        simp at hx
      refine ps_val (v' := .bool false) rfl ⟨?_, hp.chg⟩
      rw [decide_eq_false hne]
    · refine lp_next (i + 1) ?_ (by (repeat' (first | exact trivial | (refine ⟨rfl, ?_⟩)))) ⟨by omega, ?_, hp.chg⟩
      · show s.l.length - (i + 1) < s.l.length - i; omega
      · have hxe : x = x' := by simpa using hx
        rw [List.take_add_one, List.take_add_one, heq, hxx, hxx', hxe]
  · ((conv => whnf); repeat' ((first | ((with_reducible refine br_id ?_); ((with_reducible refine br_dec (fun hx => ?_) (fun hx => ?_)) <;> (try (exfalso; first | omega | exact absurd hx (by assumption) | exact absurd (by assumption) hx)))) | ((with_reducible refine gen_id ?_); (apply gen_len; exact rfl; exact rfl; assumption))) <;> (conv => whnf)))
    have he : s.l = r.l := by
      rw [List.take_of_length_le hge, List.take_of_length_le (by omega)] at heq
      exact heq
    refine ps_val (v' := .bool true) rfl ⟨?_, hp.chg⟩
    rw [decide_eq_true he]
def sameBlk (a b : Blk) : Bool := decide (a.hash = b.hash) && (decide (a.parent = b.parent) && decide (a.tx.l = b.tx.l))
theorem sameBlk_any {B : Nat} {w0 : World} {a b : Blk} (h : SlAt B w0 Id.c 32 a.tx) (h' : SlAt B w0 Id.c 32 b.tx) : Calls Tryz.prog 93 #[a.v, b.v] w0 fun e w' => e = .returned (.bool (sameBlk a b)) ∧ Chg N0 w0 w' := by
  have hp := Hp.start (S := N0) w0
  have hB : ∀ b, N0 b → B ≤ b := fun _ hh => hh.elim
  have u1 := Tryz.underlying52
  refine calls_x (args := [_, _]) tabOk Tryz.func93 Tryz.ntmps93 Tryz.results93 rfl (Nat.le_of_ble_eq_true rfl) ?_
  ((conv => whnf); repeat' ((first | ((with_reducible refine br_id ?_); first | (with_reducible refine br_t ?_) | (with_reducible refine br_f ?_) | ((with_reducible refine br_s (fun hx => ?_) (fun hx => ?_)) <;> (try (exfalso; first | omega | exact absurd hx (by assumption) | exact absurd (by assumption) hx)))) | ((with_reducible refine ld_id ?_); (apply ld_hs hp; (focus ((repeat (first | exact Has.here | apply Has.there)); done)); exact rfl)) | ((with_reducible refine ldn_id ?_); (apply ldn_hs hp; (focus ((repeat (first | exact Has.here | apply Has.there)); done)); exact rfl; exact rfl)) | ((with_reducible refine al_id ?_); (refine al_cel hp ?_; clear hp; intro bb w hp)) | ((with_reducible refine gen_id ?_); first | ((refine gen_eqa rfl rfl rfl (eq_id a.hash b.hash) (by kernel_rfl) (.inl rfl) ?_)) | ((refine gen_eqa rfl rfl rfl (eq_id a.parent b.parent) (by kernel_rfl) (.inl rfl) ?_)))) <;> (conv => whnf)))
  · refine cl_of (same09_any (h.keep hp.chg hB) (h'.keep hp.chg hB)) ?_
    rintro e w ⟨rfl, hc⟩
    replace hp := hp.call0 hc
    refine ⟨_, rfl, ?_⟩
    ((conv => whnf); repeat' (((with_reducible refine br_id ?_); (with_reducible refine br_t ?_)) <;> (conv => whnf)))
    refine ps_val (v' := .bool (decide (a.tx.l = b.tx.l))) rfl ⟨?_, hp.chg⟩
    simp only [if_true, decide_eq_true_eq] at *
    simp [sameBlk, *]
  all_goals
    refine ps_val (v' := .bool false) rfl ⟨?_, hp.chg⟩
    simp only [if_true, decide_eq_true_eq, decide_eq_false_iff_not] at *
    simp [sameBlk, *]
end Go.Proofs.YteabebmlclgakaaGreat
