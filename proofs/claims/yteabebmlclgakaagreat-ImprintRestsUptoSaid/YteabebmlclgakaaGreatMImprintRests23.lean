/- MImprintRests23: Writer2, Pay3, Pay4, Str. -/
import Derived.Test.YteabebmlclgakaaGreatMImprintRestssWriter
import Derived.Test.YteabebmlclgakaaGreatMImprintRests21
import Derived.Test.YteabebmlclgakaaGreatMImprintRests13
/- Writer2: numbers, written. -/
namespace Go.Proofs.YteabebmlclgakaaGreat
set_option linter.unusedSimpArgs false
set_option linter.unusedVariables false
open Go.RowKit
set_option maxRecDepth 100000
set_option maxHeartbeats 2000000
section
variable {α : Type} {P : Program} {w : World} {ρ : Operand → Value} {o : Oper} {g : Value → World → Prop} {t e : TypeId} {x lo : Operand}
theorem gen_arrl (hop : o.op = .slice t x (some lo) none none) {n : Nat} (ht : P.underlying t = some (.array n e)) {b ofs : Nat} (hx : ρ x = .pointer (some ⟨b, ofs, none⟩)) (he : ∃ i, P.info? e = some i ∧ i.size = 1) {k : IntKind} {m : Int} (hl : ρ lo = .int k m) (q : Nat) (hm : m = q) (hq : q < n) (l : List α) (hn : l.length = n - q) (hk : g (arrS b (ofs + q) l).v w) : Gen P ρ o w g := by
  obtain ⟨i, hi, hs⟩ := he
  subst hm
  refine gen_v (v := (arrS b (ofs + q) l).v) (w' := w) ?_ hk
  have h1 : (0 : Int) ≤ (q : Int) ∧ (q : Int) ≤ (n : Int) := by omega
  have h2 : ¬ n = q := by omega
  have h3 : q ≤ n := by omega
  simp [execOp, hop, hx, hl, Instr.sliceAt, Instr.sureAddr, run_underlying ht, Instr.sliceBounds, Instr.sliceBound, asIntOf, sizeOf, typeInfo, hi, hs, arrS, add_plain, hn, h1, h2, h3]
end
theorem back_step {α : Type} {l : List α} {k : Nat} {x z : α} : (List.replicate (k + 1) z ++ l).set k x = List.replicate k z ++ x :: l := by
  rw [List.set_append_left _ _ (by simp), List.replicate_succ', List.set_append_right _ _ (by simp)]
  simp
/-- the bytes of a number, and whether it fits -/
def numB (n width : Nat) : List UInt8 := (be8 n).drop (8 - width)
def numFit (n width : Nat) : Bool := decide (width = 8) || decide (n / 2 ^ (8 * width) = 0)
theorem numB_len (n width : Nat) (h : width ≤ 8) : (numB n width).length = width := by
  rw [numB, List.length_drop]
  simp [be8]
  omega
theorem wnum_any {w0 : World} {b room : Nat} {s : Sl UInt8} {bad : Int} (n width : Nat) (hw : 1 ≤ width ∧ width ≤ 8) (hnn : n < 2 ^ 64) (h : (star (wrRs b room s bad)).ok w0) (hs : s.l.length ≤ 1000000) (hr : room ≤ 2000000000) :
    Calls Tryz.prog 164 #[ptr b, .int .u64 n, i64 width] w0 fun e w' => ∃ s' : Sl UInt8, s'.l = (putW room s.l bad (numFit n width) (numB n width)).1 ∧ e = .returned (.tuple #[]) ∧ Mut (star (wrRs b room s bad)) (star (wrRs b room s' (putW room s.l bad (numFit n width) (numB n width)).2)) w0 w' := by
  have hp := Hp.start1 h
  refine calls_x (args := [_, _, _]) tabOk Tryz.func164 Tryz.ntmps164 Tryz.results164 rfl (Nat.le_of_ble_eq_true rfl) ?_
  ((conv => whnf); repeat' (((with_reducible refine al_id ?_); (refine al_cel hp ?_; clear hp; intro bb w hp)) <;> (conv => whnf)))
  obtain ⟨b6, hb6⟩ : ∃ b6, b6 = bb := ⟨_, rfl⟩
  subst hb6
  refine lp_inv (α := Nat) (fun i => [(0, ptr b), (1, .int .u64 n), (2, i64 width), (6, ptr b6), (10, i64 i)]) (fun i w => i ≤ 8 ∧ Hp (star (wrRs b room s bad)).dom w0 w [cel b6 291 (arC u8 (List.replicate (8 - i) 0 ++ (be8 n).drop (8 - i))), star (wrRs b room s bad)]) (fun i => 8 - i) 0 (by (repeat' (first | exact trivial | (refine ⟨rfl, ?_⟩)))) ⟨by omega, by have e : List.replicate (8 - 0) (0 : UInt8) ++ (be8 n).drop (8 - 0) = List.replicate 8 0 := rfl; rw [e]; exact hp⟩ ?_
  clear hp
  rintro i e0 w ⟨hi, hp⟩
  rcases Nat.lt_or_ge i 8 with hlt | hge
  · have hg := be8_get n (7 - i) (by omega)
    rw [show 7 - (7 - i) = i by omega] at hg
    have hd : (be8 n).drop (7 - i) = UInt8.ofNat (n / 2 ^ (8 * i)) :: (be8 n).drop (8 - i) := by
      obtain ⟨hl, he⟩ := List.getElem?_eq_some_iff.1 hg
      rw [List.drop_eq_getElem_cons hl, he, show 7 - i + 1 = 8 - i by omega]
    ((conv => whnf); repeat' ((first | ((with_reducible refine br_id ?_); ((with_reducible refine br_dec (fun hx => ?_) (fun hx => ?_)) <;> (try (exfalso; first | omega | exact absurd hx (by assumption) | exact absurd (by assumption) hx)))) | ((with_reducible refine ar_id ?_); first | ((refine ar_n (7 - i) (by omega) (by omega) ?_)) | ((refine ar_n (8 * i) (by omega) (by omega) ?_)) | ((refine ar_u8n _ rfl ?_)) | (refine ar_i64 (by omega) ?_)) | ((with_reducible refine cn_id ?_); (refine cn rfl ?_)) | ((with_reducible refine st_id ?_); ((refine st_arr hp 0 rfl (7 - i) (ad1 _ _) (UInt8.ofNat (n / 2 ^ (8 * i))) rfl (by simp only [List.length_append, List.length_replicate]; omega) rfl ?_); clear hp; intro w hp; dsimp only [List.set] at hp)) | ((with_reducible refine gen_id ?_); first | ((refine gen_shr64 rfl n (8 * i) rfl rfl rfl (by omega) ?_)) | (apply gen_ixa; exact rfl; exact rfl; exact rfl; exact rfl; omega))) <;> (conv => whnf)))
    refine lp_next (i + 1) (by omega) (by (repeat' (first | exact trivial | (refine ⟨rfl, ?_⟩)))) ⟨by omega, ?_⟩
    rw [show 8 - i = (7 - i) + 1 by omega, back_step, show (7 - i) + 1 = 8 - i by omega, ← hd, show 7 - i = 8 - (i + 1) by omega] at hp
    exact hp
  · obtain rfl : i = 8 := by omega
    have hp : Hp (star (wrRs b room s bad)).dom w0 w [cel b6 291 (arC u8 (be8 n)), star (wrRs b room s bad)] := hp
    have hlen : (numB n width).length = 8 - (8 - width) := by rw [numB_len n width hw.2]; omega
    ((conv => whnf); repeat' ((first | ((with_reducible refine br_id ?_); first | (with_reducible refine br_t ?_) | (with_reducible refine br_f ?_) | ((with_reducible refine br_dec (fun hx => ?_) (fun hx => ?_)) <;> (try (exfalso; first | omega | exact absurd hx (by assumption) | exact absurd (by assumption) hx))) | ((with_reducible refine br_eq (fun hx => ?_) (fun hx => ?_)) <;> (try (exfalso; first | omega | exact absurd hx (by assumption) | exact absurd (by assumption) hx)))) | ((with_reducible refine ar_id ?_); first | ((refine ar_n (8 - width) (by omega) (by omega) ?_)) | ((refine ar_n (8 * width) (by omega) (by omega) ?_))) | ((with_reducible refine gen_id ?_); first | ((refine gen_shr64 rfl n (8 * width) rfl rfl rfl (by omega) ?_)) | ((refine gen_arrl rfl Tryz.underlying291 rfl ⟨_, rfl, rfl⟩ rfl (8 - width) rfl (by omega) (numB n width) hlen ?_)) | ((refine gen_bs rfl hp el_prt prtL [arrS b6 (0 + (8 - width)) (numB n width)] [(arrS b6 (0 + (8 - width)) (numB n width)).v] rfl rfl rfl (fun _ hh => by simp at hh; subst hh; rfl) (by omega) ?_); clear hp; intro br w hp))) <;> (conv => whnf)))
    · have hfit : numFit n width = true := by
        unfold numFit
        rw [decide_eq_true (by omega), Bool.true_or]
      have hcc : ((arC u8 (be8 n)).toList.drop (0 + (8 - width))).take ((numB n width).length * 1) = (numB n width).flatMap u8L := by
        rw [flat_one, Nat.mul_one, Nat.zero_add]
        simp only [arC, numB, List.map_drop]
        exact List.take_of_length_le (by simp)
      have hsl := cel_slat (enc := u8L) (sz := 1) (ofs := 0 + (8 - width)) (l := numB n width) hp (j := 1) rfl (fun _ _ => rfl) hcc (by rw [hlen]; simp only [maxLen]; omega)
      have hl : (Sl.mk (some ⟨br, 0, none⟩) 1 [arrS b6 (0 + (8 - width)) (numB n width)]).l.flatMap (fun x => x.l) = numB n width := List.append_nil _
      refine cl_of (wput_any (B := w.heap.size) (ps := ⟨some ⟨br, 0, none⟩, 1, [arrS b6 (0 + (8 - width)) (numB n width)]⟩) true (hp.get (j := 2) rfl) (out_row hp (by simp)) (fun y hy => ?_) (by rw [hl, hlen]; omega) hs hr) ?_
      · simp at hy
        subst hy
        refine ⟨by simpa using hsl, fun _ k o hA => (List.pairwise_cons.1 (List.pairwise_cons.1 hp.sep).2).1 (star (wrRs b room s bad)) (by simp) k (cel_dom.2 ?_)⟩
        simp only [arrS, Option.some.injEq, Addr.mk.injEq] at hA
        exact hA.1.symm
      rw [hl]
      rintro e w ⟨s', hs', rfl, hm⟩
      replace hp := hp.via (j := 2) rfl hm
      dsimp only [List.set] at hp
      refine ⟨_, rfl, ?_⟩
      ((conv => whnf); repeat' ((first | ((with_reducible refine br_id ?_); first | (with_reducible refine br_t ?_) | (with_reducible refine br_f ?_) | (with_reducible refine br_not ?_) | ((with_reducible refine br_dec (fun hx => ?_) (fun hx => ?_)) <;> (try (exfalso; first | omega | exact absurd hx (by assumption) | exact absurd (by assumption) hx))) | ((with_reducible refine br_eq (fun hx => ?_) (fun hx => ?_)) <;> (try (exfalso; first | omega | exact absurd hx (by assumption) | exact absurd (by assumption) hx))) | ((with_reducible refine br_ne (fun hx => ?_) (fun hx => ?_)) <;> (try (exfalso; first | omega | exact absurd hx (by assumption) | exact absurd (by assumption) hx))) | ((with_reducible refine br_s (fun hx => ?_) (fun hx => ?_)) <;> (try (exfalso; first | omega | exact absurd hx (by assumption) | exact absurd (by assumption) hx)))) | ((with_reducible refine ar_id ?_); first | (refine ar_i64 (by omega) ?_) | (refine ar_u32 (by omega) ?_) | (refine ar_u64 (by omega) ?_) | (refine ar_u8 (by omega) ?_)) | ((with_reducible refine cn_id ?_); first | (refine cn rfl ?_) | (refine cn (by assumption) ?_) | (refine cn (by omega) ?_) | (refine cn (Chg.refl _ _) ?_)) | ((with_reducible refine ld_id ?_); first | (apply ld_hs hp; (focus ((repeat (first | exact Has.here | apply Has.there)); done)); exact rfl) | (refine ld_of (by assumption) ?_)) | ((with_reducible refine ldn_id ?_); first | (apply lda_hs hp; (focus ((repeat (first | exact Has.here | apply Has.there)); done)); exact rfl) | (apply ldn_hs hp; (focus ((repeat (first | exact Has.here | apply Has.there)); done)); exact rfl; exact rfl)) | ((with_reducible refine al_id ?_); (refine al_cel hp ?_; clear hp; intro bb w hp)) | ((with_reducible refine st_id ?_); first | (apply sta_hs hp; (focus ((repeat (first | exact Has.here | apply Has.there)); done)); exact rfl; exact rfl; clear hp; intro w hp; (try dsimp only [List.set] at hp)) | (apply st_hs hp; (focus ((repeat (first | exact Has.here | apply Has.there)); done)); exact rfl; exact rfl; clear hp; intro w hp; (try dsimp only [List.set] at hp))) | ((with_reducible refine gen_id ?_); first | (apply gen_build; exact rfl; exact rfl) | (apply gen_len; exact rfl; exact rfl; assumption) | (apply gen_min; exact rfl; exact rfl; exact rfl) | (apply gen_max; exact rfl; exact rfl; exact rfl) | (apply gen_ix; exact rfl; exact rfl; exact rfl; exact rfl; omega) | (apply gen_ixa; exact rfl; exact rfl; exact rfl; exact rfl; omega)) | ((with_reducible refine dr_id ?_); first | (refine dr_auto tabOk (by kernel_rfl) (by decide +kernel) ?_; (try replace hp := hp.drew)) | (refine dr_autog tabOk (by kernel_rfl) (by decide +kernel) ?_; (try replace hp := hp.drew)) | (refine dr_autot tabOk (by kernel_rfl) (by decide +kernel) ?_; (try replace hp := hp.drew))) | ((with_reducible refine fk_id ?_); (refine fk_mk ?_ ?_)) | ((with_reducible refine rd_id ?_); first | (apply rd_len; exact rfl; exact rfl; assumption) | (apply rd_ix; exact rfl; exact rfl; exact rfl; exact rfl; omega))) <;> (conv => whnf)))
      rw [hfit]
      exact ps_val (v' := .tuple #[]) rfl ⟨s', hs', rfl, hp.shut1 (j := 2) rfl⟩
    · have hfit : numFit n width = (((n / 2 ^ (8 * width) : Nat) : Int) == 0) := by
        unfold numFit
        rw [decide_eq_false (by omega), Bool.false_or, Bool.eq_iff_iff]
        simp only [decide_eq_true_eq, beq_iff_eq]
        omega
      have hcc : ((arC u8 (be8 n)).toList.drop (0 + (8 - width))).take ((numB n width).length * 1) = (numB n width).flatMap u8L := by
        rw [flat_one, Nat.mul_one, Nat.zero_add]
        simp only [arC, numB, List.map_drop]
        exact List.take_of_length_le (by simp)
      have hsl := cel_slat (enc := u8L) (sz := 1) (ofs := 0 + (8 - width)) (l := numB n width) hp (j := 1) rfl (fun _ _ => rfl) hcc (by rw [hlen]; simp only [maxLen]; omega)
      have hl : (Sl.mk (some ⟨br, 0, none⟩) 1 [arrS b6 (0 + (8 - width)) (numB n width)]).l.flatMap (fun x => x.l) = numB n width := List.append_nil _
      refine cl_of (wput_any (B := w.heap.size) (ps := ⟨some ⟨br, 0, none⟩, 1, [arrS b6 (0 + (8 - width)) (numB n width)]⟩) (((n / 2 ^ (8 * width) : Nat) : Int) == 0) (hp.get (j := 2) rfl) (out_row hp (by simp)) (fun y hy => ?_) (by rw [hl, hlen]; omega) hs hr) ?_
      · simp at hy
        subst hy
        refine ⟨by simpa using hsl, fun _ k o hA => (List.pairwise_cons.1 (List.pairwise_cons.1 hp.sep).2).1 (star (wrRs b room s bad)) (by simp) k (cel_dom.2 ?_)⟩
        simp only [arrS, Option.some.injEq, Addr.mk.injEq] at hA
        exact hA.1.symm
      rw [hl]
      rintro e w ⟨s', hs', rfl, hm⟩
      replace hp := hp.via (j := 2) rfl hm
      dsimp only [List.set] at hp
      refine ⟨_, rfl, ?_⟩
      ((conv => whnf); repeat' ((first | ((with_reducible refine br_id ?_); first | (with_reducible refine br_t ?_) | (with_reducible refine br_f ?_) | (with_reducible refine br_not ?_) | ((with_reducible refine br_dec (fun hx => ?_) (fun hx => ?_)) <;> (try (exfalso; first | omega | exact absurd hx (by assumption) | exact absurd (by assumption) hx))) | ((with_reducible refine br_eq (fun hx => ?_) (fun hx => ?_)) <;> (try (exfalso; first | omega | exact absurd hx (by assumption) | exact absurd (by assumption) hx))) | ((with_reducible refine br_ne (fun hx => ?_) (fun hx => ?_)) <;> (try (exfalso; first | omega | exact absurd hx (by assumption) | exact absurd (by assumption) hx))) | ((with_reducible refine br_s (fun hx => ?_) (fun hx => ?_)) <;> (try (exfalso; first | omega | exact absurd hx (by assumption) | exact absurd (by assumption) hx)))) | ((with_reducible refine ar_id ?_); first | (refine ar_i64 (by omega) ?_) | (refine ar_u32 (by omega) ?_) | (refine ar_u64 (by omega) ?_) | (refine ar_u8 (by omega) ?_)) | ((with_reducible refine cn_id ?_); first | (refine cn rfl ?_) | (refine cn (by assumption) ?_) | (refine cn (by omega) ?_) | (refine cn (Chg.refl _ _) ?_)) | ((with_reducible refine ld_id ?_); first | (apply ld_hs hp; (focus ((repeat (first | exact Has.here | apply Has.there)); done)); exact rfl) | (refine ld_of (by assumption) ?_)) | ((with_reducible refine ldn_id ?_); first | (apply lda_hs hp; (focus ((repeat (first | exact Has.here | apply Has.there)); done)); exact rfl) | (apply ldn_hs hp; (focus ((repeat (first | exact Has.here | apply Has.there)); done)); exact rfl; exact rfl)) | ((with_reducible refine al_id ?_); (refine al_cel hp ?_; clear hp; intro bb w hp)) | ((with_reducible refine st_id ?_); first | (apply sta_hs hp; (focus ((repeat (first | exact Has.here | apply Has.there)); done)); exact rfl; exact rfl; clear hp; intro w hp; (try dsimp only [List.set] at hp)) | (apply st_hs hp; (focus ((repeat (first | exact Has.here | apply Has.there)); done)); exact rfl; exact rfl; clear hp; intro w hp; (try dsimp only [List.set] at hp))) | ((with_reducible refine gen_id ?_); first | (apply gen_build; exact rfl; exact rfl) | (apply gen_len; exact rfl; exact rfl; assumption) | (apply gen_min; exact rfl; exact rfl; exact rfl) | (apply gen_max; exact rfl; exact rfl; exact rfl) | (apply gen_ix; exact rfl; exact rfl; exact rfl; exact rfl; omega) | (apply gen_ixa; exact rfl; exact rfl; exact rfl; exact rfl; omega)) | ((with_reducible refine dr_id ?_); first | (refine dr_auto tabOk (by kernel_rfl) (by decide +kernel) ?_; (try replace hp := hp.drew)) | (refine dr_autog tabOk (by kernel_rfl) (by decide +kernel) ?_; (try replace hp := hp.drew)) | (refine dr_autot tabOk (by kernel_rfl) (by decide +kernel) ?_; (try replace hp := hp.drew))) | ((with_reducible refine fk_id ?_); (refine fk_mk ?_ ?_)) | ((with_reducible refine rd_id ?_); first | (apply rd_len; exact rfl; exact rfl; assumption) | (apply rd_ix; exact rfl; exact rfl; exact rfl; exact rfl; omega))) <;> (conv => whnf)))
      rw [hfit]
      exact ps_val (v' := .tuple #[]) rfl ⟨s', hs', rfl, hp.shut1 (j := 2) rfl⟩
end Go.Proofs.YteabebmlclgakaaGreat
/- Pay3: which payload may be, and its bytes. -/
namespace Go.Proofs.YteabebmlclgakaaGreat
set_option linter.unusedSimpArgs false
set_option linter.unusedVariables false
open Go.RowKit
set_option maxRecDepth 100000
set_option maxHeartbeats 2000000
theorem el_tier : ElT Tryz.prog 45 51 2 32 := elt_of (z := .agg #[.int .u32 0, .slice none 0 0]) Tryz.underlying45 (by kernel_rfl) rfl (by omega)
def tierOk (l : List Tier) (i : Nat) : Bool := match l[i]? with
  | some t => decide (1 ≤ t.tx.l.length ∧ t.tx.l.length ≤ 64) && (match i with
    | 0 => true
    | k + 1 => match l[k]? with
      | some s => decide (s.fee.toNat < t.fee.toNat)
      | none => true)
  | none => true
def rightP (p : Payload) : Bool := decide (1 ≤ p.l.length ∧ p.l.length ≤ 8) && (List.range p.l.length).all (tierOk p.l)
theorem tierOk_zero {l : List Tier} {t : Tier} (h : l[0]? = some t) : tierOk l 0 = decide (1 ≤ t.tx.l.length ∧ t.tx.l.length ≤ 64) := by
  unfold tierOk
  rw [h]
  exact Bool.and_true _
theorem tierOk_succ {l : List Tier} {k : Nat} {t s : Tier} (h : l[k + 1]? = some t) (hs : l[k]? = some s) : tierOk l (k + 1) = (decide (1 ≤ t.tx.l.length ∧ t.tx.l.length ≤ 64) && decide (s.fee.toNat < t.fee.toNat)) := by
  unfold tierOk
  rw [h]
  simp only [hs]
theorem rightP_no {p : Payload} {i : Nat} (hi : i < p.l.length) (h : tierOk p.l i = false) : rightP p = false := by
  unfold rightP
  rw [Bool.and_eq_false_iff]
  right
  rw [List.all_eq_false]
  exact ⟨i, List.mem_range.2 hi, by rw [h]; simp⟩
theorem rightP_at {p : Payload} (h : rightP p = true) : 1 ≤ p.l.length ∧ p.l.length ≤ 8 ∧ ∀ t ∈ p.l, 1 ≤ t.tx.l.length ∧ t.tx.l.length ≤ 64 := by
  unfold rightP at h
  rw [Bool.and_eq_true, List.all_eq_true] at h
  obtain ⟨h1, h2⟩ := h
  have h1 := of_decide_eq_true h1
  refine ⟨h1.1, h1.2, fun t ht => ?_⟩
  obtain ⟨i, hi⟩ := List.mem_iff_getElem?.1 ht
  have h3 := h2 i (List.mem_range.2 (List.getElem?_eq_some_iff.1 hi).1)
  unfold tierOk at h3
  rw [hi] at h3
  simp only [Bool.and_eq_true, decide_eq_true_eq] at h3
  exact h3.1
theorem rightp_any {B : Nat} {w0 : World} {p : Payload} (h : PayAt B w0 p) : Calls Tryz.prog 216 #[p.pv] w0 fun e w' => e = .returned (.bool (rightP p)) ∧ Chg N0 w0 w' := by
  have hp := Hp.start (S := N0) w0
  have hB : ∀ b, N0 b → B ≤ b := fun _ hh => hh.elim
  have u1 := Tryz.underlying45
  have u2 := Tryz.underlying38
  have hmax : p.l.length ≤ 9223372036854775807 := by have := h.row.le; have := h.row.max; simp only [maxLen] at this; omega
  refine calls_x (args := [_]) tabOk Tryz.func216 Tryz.ntmps216 Tryz.results216 rfl (Nat.le_of_ble_eq_true rfl) ?_
  ((conv => whnf); repeat' ((first | ((with_reducible refine br_id ?_); first | (with_reducible refine br_t ?_) | (with_reducible refine br_f ?_) | ((with_reducible refine br_dec (fun hx => ?_) (fun hx => ?_)) <;> (try (exfalso; first | omega | exact absurd hx (by assumption) | exact absurd (by assumption) hx)))) | ((with_reducible refine ld_id ?_); (apply ld_hs hp; (focus ((repeat (first | exact Has.here | apply Has.there)); done)); exact rfl)) | ((with_reducible refine al_id ?_); (refine al_cel hp ?_; clear hp; intro bb w hp)) | ((with_reducible refine gen_id ?_); (apply gen_len; exact rfl; exact rfl; assumption))) <;> (conv => whnf)))
  · refine ps_val (v' := .bool false) rfl ⟨?_, hp.chg⟩
    have : rightP p = false := by
      unfold rightP
      rw [decide_eq_false (by omega), Bool.false_and]
    rw [this]
  · refine ps_val (v' := .bool false) rfl ⟨?_, hp.chg⟩
    have : rightP p = false := by
      unfold rightP
      rw [decide_eq_false (by omega), Bool.false_and]
    rw [this]
  · refine lp_inv (α := Nat) (fun i => [(1, ptr bb), (16, p.v), (17, i64 p.l.length), (18, i64 i)]) (fun i w => i ≤ p.l.length ∧ (∀ j, j < i → tierOk p.l j = true) ∧ Hp N0 w0 w [cel bb 47 #[p.v]]) (fun i => p.l.length - i) 0 (by (repeat' (first | exact trivial | (refine ⟨rfl, ?_⟩)))) ⟨by omega, fun j hj => by omega, hp⟩ ?_
    clear hp
    rintro i e0 w ⟨hi, hall, hp⟩
    rcases Nat.lt_or_ge i p.l.length with hlt | hge
    · obtain ⟨b, o, x, hA, hb, hrow, hxx⟩ := h.row.has hlt
      have hmem := List.mem_of_getElem? hxx
      have hxm : x.tx.l.length ≤ 9223372036854775807 := by have := (h.tx x hmem).le; have := (h.tx x hmem).max; simp only [maxLen] at this; omega
      have next : ∀ {w : World}, tierOk p.l i = true → ∀ j, j < i + 1 → tierOk p.l j = true := fun ht j hj => by
        rcases Nat.lt_or_ge j i with h1 | h1
        · exact hall j h1
        · obtain rfl : j = i := by omega
          exact ht
      cases i with
      | zero =>
        ((conv => whnf); repeat' ((first | ((with_reducible refine br_id ?_); first | (with_reducible refine br_t ?_) | (with_reducible refine br_f ?_) | ((with_reducible refine br_dec (fun hx => ?_) (fun hx => ?_)) <;> (try (exfalso; first | omega | exact absurd hx (by assumption) | exact absurd (by assumption) hx)))) | ((with_reducible refine ar_id ?_); (refine ar_i64 (by omega) ?_)) | ((with_reducible refine cn_id ?_); (refine cn rfl ?_)) | ((with_reducible refine ld_id ?_); (apply ld_hs hp; (focus ((repeat (first | exact Has.here | apply Has.there)); done)); exact rfl)) | ((with_reducible refine ldn_id ?_); ((refine ldn_rowx hp hB (by assumption) (by assumption) _ rfl (by assumption) rfl ?_))) | ((with_reducible refine al_id ?_); (refine al_cel hp ?_; clear hp; intro bb w hp)) | ((with_reducible refine st_id ?_); (apply sta_hs hp; (focus ((repeat (first | exact Has.here | apply Has.there)); done)); exact rfl; exact rfl; clear hp; intro w hp; (try dsimp only [List.set] at hp))) | ((with_reducible refine gen_id ?_); ((refine gen_ixs rfl rfl (by assumption) rfl rfl (by omega) ?_))) | ((with_reducible refine dr_id ?_); (refine dr_auto tabOk (by kernel_rfl) (by decide +kernel) ?_; (try replace hp := hp.drew))) | ((with_reducible refine rd_id ?_); (apply rd_len; exact rfl; exact rfl; assumption))) <;> (conv => whnf)))
        all_goals first
          | (refine ps_val (v' := .bool false) rfl ⟨?_, hp.chg⟩
             rw [rightP_no hlt (by rw [tierOk_zero hxx, decide_eq_false (by omega)])])
          | exact lp_next 1 (by omega) (by (repeat' (first | exact trivial | (refine ⟨rfl, ?_⟩)))) ⟨by omega, next (w := w) (by rw [tierOk_zero hxx, decide_eq_true (by omega)]), hp.tail⟩
      | succ k =>
        obtain ⟨y, hy⟩ : ∃ y, p.l[k]? = some y := ⟨_, List.getElem?_eq_getElem (by omega)⟩
        ((conv => whnf); repeat' ((first | ((with_reducible refine br_id ?_); first | (with_reducible refine br_t ?_) | (with_reducible refine br_f ?_) | ((with_reducible refine br_dec (fun hx => ?_) (fun hx => ?_)) <;> (try (exfalso; first | omega | exact absurd hx (by assumption) | exact absurd (by assumption) hx)))) | ((with_reducible refine ar_id ?_); first | ((refine ar_n (k) (by omega) (by omega) ?_)) | (refine ar_i64 (by omega) ?_)) | ((with_reducible refine cn_id ?_); (refine cn rfl ?_)) | ((with_reducible refine ld_id ?_); first | ((refine ld_row hp hB (by assumption) (by assumption) _ _ rfl (by assumption) (by rfl) ?_)) | (apply ld_hs hp; (focus ((repeat (first | exact Has.here | apply Has.there)); done)); exact rfl)) | ((with_reducible refine ldn_id ?_); ((refine ldn_rowx hp hB (by assumption) (by assumption) _ rfl (by assumption) rfl ?_))) | ((with_reducible refine al_id ?_); (refine al_cel hp ?_; clear hp; intro bb w hp)) | ((with_reducible refine st_id ?_); (apply sta_hs hp; (focus ((repeat (first | exact Has.here | apply Has.there)); done)); exact rfl; exact rfl; clear hp; intro w hp; (try dsimp only [List.set] at hp))) | ((with_reducible refine gen_id ?_); ((refine gen_ixs rfl rfl (by assumption) rfl rfl (by omega) ?_))) | ((with_reducible refine dr_id ?_); (refine dr_auto tabOk (by kernel_rfl) (by decide +kernel) ?_; (try replace hp := hp.drew))) | ((with_reducible refine rd_id ?_); first | ((refine rd_ixs rfl rfl (by assumption) rfl rfl (by omega) ?_)) | (apply rd_len; exact rfl; exact rfl; assumption))) <;> (conv => whnf)))
        all_goals first
          | (refine ps_val (v' := .bool false) rfl ⟨?_, hp.chg⟩
             rw [rightP_no hlt (by rw [tierOk_succ hxx hy, decide_eq_false (by omega), Bool.false_and])])
          | (refine ps_val (v' := .bool false) rfl ⟨?_, hp.chg⟩
             rw [rightP_no hlt (by rw [tierOk_succ hxx hy, decide_eq_false (p := y.fee.toNat < x.fee.toNat) (by omega), Bool.and_false])])
          | exact lp_next (k + 1 + 1) (by omega) (by (repeat' (first | exact trivial | (refine ⟨rfl, ?_⟩)))) ⟨by omega, next (w := w) (by rw [tierOk_succ hxx hy, decide_eq_true (by omega), decide_eq_true (p := y.fee.toNat < x.fee.toNat) (by omega)]; rfl), hp.tail⟩
    · ((conv => whnf); repeat' (((with_reducible refine br_id ?_); ((with_reducible refine br_dec (fun hx => ?_) (fun hx => ?_)) <;> (try (exfalso; first | omega | exact absurd hx (by assumption) | exact absurd (by assumption) hx)))) <;> (conv => whnf)))
      refine ps_val (v' := .bool true) rfl ⟨?_, hp.chg⟩
      have : rightP p = true := by
        unfold rightP
        rw [decide_eq_true (by omega), Bool.true_and, List.all_eq_true]
        intro j hj
        exact hall j (by have := List.mem_range.1 hj; omega)
      rw [this]
end Go.Proofs.YteabebmlclgakaaGreat
/- Pay4: a payload's bytes; the document's example. -/
namespace Go.Proofs.YteabebmlclgakaaGreat
set_option linter.unusedSimpArgs false
set_option linter.unusedVariables false
open Go.RowKit
set_option maxRecDepth 100000
set_option maxHeartbeats 2000000
def tierB (t : Tier) : List UInt8 := (numB t.fee.toNat 4 ++ numB t.tx.l.length 1) ++ t.tx.l
def bytesP (l : List Tier) : List UInt8 := numB l.length 1 ++ l.flatMap tierB
def encP (p : Payload) : List UInt8 × Int := if rightP p = true then (bytesP p.l, 0) else ([], 1)
theorem putW_ok {room : Nat} {l ps : List UInt8} (h : l.length + ps.length ≤ room) : putW room l 0 true ps = (l ++ ps, 0) := by
  rw [putW, if_neg (by simp), if_neg (by simp), if_neg (by omega)]
theorem fit_1 {n : Nat} (h : n < 256) : numFit n 1 = true := by
  unfold numFit
  rw [decide_eq_true (p := n / 2 ^ (8 * 1) = 0) (by omega), Bool.or_true]
theorem fit_4 (x : UInt32) : numFit x.toNat 4 = true := by
  have := x.toNat_lt
  unfold numFit
  rw [decide_eq_true (p := x.toNat / 2 ^ (8 * 4) = 0) (by omega), Bool.or_true]
theorem tierB_len {t : Tier} (h : t.tx.l.length ≤ 64) : (tierB t).length ≤ 69 := by
  rw [tierB, List.length_append, List.length_append, numB_len _ _ (by omega), numB_len _ _ (by omega)]
  omega
theorem flat_le {l : List Tier} (h : ∀ t ∈ l, t.tx.l.length ≤ 64) : (l.flatMap tierB).length ≤ 69 * l.length := by
  induction l with
  | nil => simp
  | cons t l ih =>
    have h1 := tierB_len (h t (by simp))
    have h2 := ih fun x hx => h x (by simp [hx])
    rw [List.flatMap_cons, List.length_append, List.length_cons]
    omega
theorem enc_any {B : Nat} {w0 : World} {p : Payload} (h : PayAt B w0 p) (hBw : B ≤ w0.heap.size) : Calls Tryz.prog 177 #[p.pv] w0 fun e w' => ∃ r : Sl UInt8, r.l = (encP p).1 ∧ e = .returned (.tuple #[r.v, i64 (encP p).2]) ∧ Made (rowR 5 1 u8L r) w0 w' := by
  have hp := Hp.start (S := N0) w0
  have hB : ∀ b, N0 b → B ≤ b := fun _ hh => hh.elim
  have u1 := Tryz.underlying45
  have u2 := Tryz.underlying38
  have hmax : p.l.length ≤ 9223372036854775807 := by have := h.row.le; have := h.row.max; simp only [maxLen] at this; omega
  refine calls_x (args := [_]) tabOk Tryz.func177 Tryz.ntmps177 Tryz.results177 rfl (Nat.le_of_ble_eq_true rfl) ?_
  ((conv => whnf); repeat' ((first | ((with_reducible refine ldn_id ?_); (apply lda_hs hp; (focus ((repeat (first | exact Has.here | apply Has.there)); done)); exact rfl)) | ((with_reducible refine al_id ?_); (refine al_cel hp ?_; clear hp; intro bb w hp))) <;> (conv => whnf)))
  refine cl_of (rightp_any (B := B) ⟨h.row.keep hp.chg hB, fun t ht => (h.tx t ht).keep hp.chg hB⟩) ?_
  rintro e w ⟨rfl, hc⟩
  replace hp := hp.call0 hc
  refine ⟨_, rfl, ?_⟩
  ((conv => whnf); repeat' (((with_reducible refine br_id ?_); first | (with_reducible refine br_not ?_) | ((with_reducible refine br_s (fun hx => ?_) (fun hx => ?_)) <;> (try (exfalso; first | omega | exact absurd hx (by assumption) | exact absurd (by assumption) hx)))) <;> (conv => whnf)))
  rotate_left
  · have hR : rightP p = false := by simpa using hx
    have hp0 : Hp N0 w0 w [rowR 5 1 u8L Sl.nil] := (hp.new (Chg.refl _ _) (r := rowR 5 1 u8L Sl.nil) (rowR_ok.2 ⟨World.ownsRow_nil w 0 _ _, by simp [Sl.nil]⟩) fun b hb => by have h1 := rowR_dom.1 hb; cases h1).sub (List.Sublist.cons_cons _ (List.nil_sublist _))
    exact ps_val (v' := .tuple #[(Sl.nil (α := UInt8)).v, i64 1]) rfl ⟨Sl.nil, by rw [encP, if_neg (by rw [hR]; simp)]; rfl, by rw [encP, if_neg (by rw [hR]; simp)], hp0.made1 (j := 0) rfl⟩
  · have hR : rightP p = true := by simpa using hx
    obtain ⟨hr1, hr2, hr3⟩ := rightP_at hR
    obtain ⟨b1, hb1⟩ : ∃ b, b = bb := ⟨_, rfl⟩
    subst hb1
    refine cl_of (wnew_any 553 (by omega)) ?_
    rintro e w ⟨b, rfl, hm⟩
    replace hp := hp.add hm
    clear hm
    refine ⟨_, rfl, ?_⟩
    ((conv => whnf); repeat' ((first | ((with_reducible refine ar_id ?_); (refine ar_u64 (by omega) ?_)) | ((with_reducible refine ld_id ?_); (apply ld_hs hp; (focus ((repeat (first | exact Has.here | apply Has.there)); done)); exact rfl)) | ((with_reducible refine gen_id ?_); (apply gen_len; exact rfl; exact rfl; assumption))) <;> (conv => whnf)))
    refine cl_of (wnum_any p.l.length 1 (by omega) (by omega) (hp.get (j := 0) rfl) (by simp [Sl.nil]) (by omega)) ?_
    rintro e w ⟨s1, hs1, rfl, hm⟩
    replace hp := hp.via (j := 0) rfl hm
    dsimp only [List.set] at hp
    clear hm
    refine ⟨_, rfl, ?_⟩
    have hn1 : (numB p.l.length 1).length = 1 := numB_len _ _ (by omega)
    rw [fit_1 (by omega), putW_ok (by rw [hn1]; simp [Sl.nil])] at hs1 hp
    ((conv => whnf); repeat' ((first | ((with_reducible refine ld_id ?_); (apply ld_hs hp; (focus ((repeat (first | exact Has.here | apply Has.there)); done)); exact rfl)) | ((with_reducible refine gen_id ?_); (apply gen_len; exact rfl; exact rfl; assumption))) <;> (conv => whnf)))
    refine lp_inv (α := Nat × Sl UInt8) (fun a => [(1, ptr b1), (4, ptr b), (18, p.v), (19, i64 p.l.length), (20, i64 a.1)]) (fun a w => a.1 ≤ p.l.length ∧ a.2.l = numB p.l.length 1 ++ (p.l.take a.1).flatMap tierB ∧ Hp N0 w0 w [star (wrRs b 553 a.2 0), cel b1 47 #[p.v]]) (fun a => p.l.length - a.1) (0, s1) (by (repeat' (first | exact trivial | (refine ⟨rfl, ?_⟩)))) ⟨by omega, by rw [hs1]; simp [Sl.nil], hp⟩ ?_
    clear hp hs1
    rintro ⟨i, q⟩ e0 w ⟨hi, hq, hp⟩
    dsimp only at hi hq hp ⊢
    have hql : q.l.length ≤ 1 + 69 * i := by
      have h1 := flat_le (l := p.l.take i) fun t ht => (hr3 t (List.mem_of_mem_take ht)).2
      rw [hq, List.length_append, hn1]
      rw [List.length_take] at h1
      omega
    rcases Nat.lt_or_ge i p.l.length with hlt | hge
    · obtain ⟨bb, o, x, hA, hb, hrow, hxx⟩ := h.row.has hlt
      have hmem := List.mem_of_getElem? hxx
      obtain ⟨hx1, hx2⟩ := hr3 x hmem
      have hn4 : (numB x.fee.toNat 4).length = 4 := numB_len _ _ (by omega)
      have hn2 : (numB x.tx.l.length 1).length = 1 := numB_len _ _ (by omega)
      have hx32 := x.fee.toNat_lt
      ((conv => whnf); repeat' ((first | ((with_reducible refine br_id ?_); ((with_reducible refine br_dec (fun hx => ?_) (fun hx => ?_)) <;> (try (exfalso; first | omega | exact absurd hx (by assumption) | exact absurd (by assumption) hx)))) | ((with_reducible refine ar_id ?_); (refine ar_u64 (by omega) ?_)) | ((with_reducible refine cn_id ?_); (refine cn rfl ?_)) | ((with_reducible refine ld_id ?_); (apply ld_hs hp; (focus ((repeat (first | exact Has.here | apply Has.there)); done)); exact rfl)) | ((with_reducible refine ldn_id ?_); ((refine ldn_rowx hp hB (by assumption) (by assumption) _ rfl (by assumption) rfl ?_))) | ((with_reducible refine al_id ?_); (refine al_cel hp ?_; clear hp; intro bb w hp)) | ((with_reducible refine st_id ?_); (apply sta_hs hp; (focus ((repeat (first | exact Has.here | apply Has.there)); done)); exact rfl; exact rfl; clear hp; intro w hp; (try dsimp only [List.set] at hp))) | ((with_reducible refine gen_id ?_); ((refine gen_ixs rfl rfl (by assumption) rfl rfl (by omega) ?_)))) <;> (conv => whnf)))
      refine cl_of (wnum_any x.fee.toNat 4 (by omega) (by omega) (hp.get (j := 1) rfl) (by omega) (by omega)) ?_
      rintro e w ⟨s2, hs2, rfl, hm⟩
      replace hp := hp.via (j := 1) rfl hm
      dsimp only [List.set] at hp
      clear hm
      refine ⟨_, rfl, ?_⟩
      rw [fit_4, putW_ok (by omega)] at hs2 hp
      have hl2 : s2.l.length = q.l.length + 4 := by rw [hs2, List.length_append, hn4]
      ((conv => whnf); repeat' ((first | ((with_reducible refine ar_id ?_); (refine ar_u64 (by omega) ?_)) | ((with_reducible refine ld_id ?_); (apply ld_hs hp; (focus ((repeat (first | exact Has.here | apply Has.there)); done)); exact rfl)) | ((with_reducible refine gen_id ?_); (apply gen_len; exact rfl; exact rfl; assumption))) <;> (conv => whnf)))
      refine cl_of (wnum_any x.tx.l.length 1 (by omega) (by omega) (hp.get (j := 1) rfl) (by omega) (by omega)) ?_
      rintro e w ⟨s3, hs3, rfl, hm⟩
      replace hp := hp.via (j := 1) rfl hm
      dsimp only [List.set] at hp
      clear hm
      refine ⟨_, rfl, ?_⟩
      rw [fit_1 (by omega), putW_ok (by omega)] at hs3 hp
      have hl3 : s3.l.length = q.l.length + 5 := by rw [hs3, List.length_append, hn2, hl2]
      ((conv => whnf); repeat' (((with_reducible refine ld_id ?_); (apply ld_hs hp; (focus ((repeat (first | exact Has.here | apply Has.there)); done)); exact rfl)) <;> (conv => whnf)))
      refine cl_of (wbytes_any (B := B) (hp.get (j := 1) rfl) ⟨(h.tx x hmem).keep hp.chg hB, fun hne k o hk hd => ?_⟩ (Nat.le_trans hBw hp.chg.size) (by omega) (by omega) (by omega)) ?_
      · have h1 := (hp.own _ (List.mem_cons_of_mem _ (List.mem_cons_self ..)) k hd).resolve_left (fun hh => hh)
        obtain ⟨b', o', h4, h5, _⟩ := (h.tx x hmem).row hne
        rw [hk] at h4
        cases h4
        omega
      rintro e w ⟨s4, hs4, rfl, hm⟩
      replace hp := hp.via (j := 1) rfl hm
      dsimp only [List.set] at hp
      clear hm
      refine ⟨_, rfl, ?_⟩
      rw [putW_ok (by omega)] at hs4 hp
      ((conv => whnf); repeat' (((with_reducible refine ar_id ?_); (refine ar_i64 (by omega) ?_)) <;> (conv => whnf)))
      refine lp_next (i + 1, s4) (by show p.l.length - (i + 1) < p.l.length - i; omega) (by (repeat' (first | exact trivial | (refine ⟨rfl, ?_⟩)))) ⟨by show i + 1 ≤ _; omega, ?_, hp.tail⟩
      show s4.l = numB p.l.length 1 ++ (p.l.take (i + 1)).flatMap tierB
      rw [hs4, hs3, hs2, hq, List.take_add_one, hxx, List.flatMap_append]
      simp [tierB, List.append_assoc]
    · rw [List.take_of_length_le hge] at hq
      ((conv => whnf); repeat' (((with_reducible refine br_id ?_); ((with_reducible refine br_dec (fun hx => ?_) (fun hx => ?_)) <;> (try (exfalso; first | omega | exact absurd hx (by assumption) | exact absurd (by assumption) hx)))) <;> (conv => whnf)))
      refine cl_of (wdone_any (hp.get (j := 0) rfl) (by omega)) ?_
      rintro e w ⟨r, hr, rfl, hm⟩
      replace hp := hp.add hm
      clear hm
      refine ⟨_, rfl, ?_⟩
      ((conv => whnf); repeat' ((first | ((with_reducible refine br_id ?_); first | (with_reducible refine br_t ?_) | (with_reducible refine br_f ?_) | (with_reducible refine br_not ?_) | ((with_reducible refine br_dec (fun hx => ?_) (fun hx => ?_)) <;> (try (exfalso; first | omega | exact absurd hx (by assumption) | exact absurd (by assumption) hx))) | ((with_reducible refine br_eq (fun hx => ?_) (fun hx => ?_)) <;> (try (exfalso; first | omega | exact absurd hx (by assumption) | exact absurd (by assumption) hx))) | ((with_reducible refine br_ne (fun hx => ?_) (fun hx => ?_)) <;> (try (exfalso; first | omega | exact absurd hx (by assumption) | exact absurd (by assumption) hx))) | ((with_reducible refine br_s (fun hx => ?_) (fun hx => ?_)) <;> (try (exfalso; first | omega | exact absurd hx (by assumption) | exact absurd (by assumption) hx)))) | ((with_reducible refine ar_id ?_); first | (refine ar_i64 (by omega) ?_) | (refine ar_u32 (by omega) ?_) | (refine ar_u64 (by omega) ?_) | (refine ar_u8 (by omega) ?_)) | ((with_reducible refine cn_id ?_); first | (refine cn rfl ?_) | (refine cn (by assumption) ?_) | (refine cn (by omega) ?_) | (refine cn (Chg.refl _ _) ?_)) | ((with_reducible refine ld_id ?_); first | (apply ld_hs hp; (focus ((repeat (first | exact Has.here | apply Has.there)); done)); exact rfl) | (refine ld_of (by assumption) ?_)) | ((with_reducible refine ldn_id ?_); first | (apply lda_hs hp; (focus ((repeat (first | exact Has.here | apply Has.there)); done)); exact rfl) | (apply ldn_hs hp; (focus ((repeat (first | exact Has.here | apply Has.there)); done)); exact rfl; exact rfl)) | ((with_reducible refine al_id ?_); (refine al_cel hp ?_; clear hp; intro bb w hp)) | ((with_reducible refine st_id ?_); first | (apply sta_hs hp; (focus ((repeat (first | exact Has.here | apply Has.there)); done)); exact rfl; exact rfl; clear hp; intro w hp; (try dsimp only [List.set] at hp)) | (apply st_hs hp; (focus ((repeat (first | exact Has.here | apply Has.there)); done)); exact rfl; exact rfl; clear hp; intro w hp; (try dsimp only [List.set] at hp))) | ((with_reducible refine gen_id ?_); first | (apply gen_build; exact rfl; exact rfl) | (apply gen_len; exact rfl; exact rfl; assumption) | (apply gen_min; exact rfl; exact rfl; exact rfl) | (apply gen_max; exact rfl; exact rfl; exact rfl) | (apply gen_ix; exact rfl; exact rfl; exact rfl; exact rfl; omega) | (apply gen_ixa; exact rfl; exact rfl; exact rfl; exact rfl; omega)) | ((with_reducible refine dr_id ?_); first | (refine dr_auto tabOk (by kernel_rfl) (by decide +kernel) ?_; (try replace hp := hp.drew)) | (refine dr_autog tabOk (by kernel_rfl) (by decide +kernel) ?_; (try replace hp := hp.drew)) | (refine dr_autot tabOk (by kernel_rfl) (by decide +kernel) ?_; (try replace hp := hp.drew))) | ((with_reducible refine fk_id ?_); (refine fk_mk ?_ ?_)) | ((with_reducible refine rd_id ?_); first | (apply rd_len; exact rfl; exact rfl; assumption) | (apply rd_ix; exact rfl; exact rfl; exact rfl; exact rfl; omega))) <;> (conv => whnf)))
      exact ps_val (v' := .tuple #[r.v, i64 0]) rfl ⟨r, by rw [hr, if_pos rfl, hq, encP, if_pos hR]; rfl, by rw [encP, if_pos hR], hp.made1 (j := 0) rfl⟩
end Go.Proofs.YteabebmlclgakaaGreat
/- Str: bytes as strings, compared, in reading operations. No condition. -/
namespace Go.Proofs.YteabebmlclgakaaGreat
set_option linter.unusedSimpArgs false
set_option linter.unusedVariables false
open Go.RowKit
set_option maxRecDepth 100000
set_option maxHeartbeats 2000000
theorem rd_b2s {P : Program} {w : World} {ρ : Operand → Value} {o : Oper} {g : Value → Prop} {B : Nat} {e src dst : TypeId} {x : Operand} (hop : o.op = .convert src dst x) {s : Sl UInt8} (h : SlAt B w u8L 1 s) (hs : P.underlying src = some (.slice e)) (he : P.underlying e = some (.int .u8)) (hd : P.underlying dst = some .string) (hx : ρ x = s.v) (hk : g (str s.l)) : Rd P ρ o w g :=
  ⟨str s.l, fun w' hc => by simp only [execOp, hop, Sem.run_bind, hx, run_b2s hs he hd (h.keep hc fun _ hh => hh.elim), Result.andThen_ok, Sem.run_pure], hk⟩
theorem rd_streq {P : Program} {w : World} {ρ : Operand → Value} {o : Oper} {g : Value → Prop} {op : BinOp} {t t2 : TypeId} {x y : Operand} (hop : o.op = .binOp op t x y t2) {a b : List UInt8} (hx : ρ x = str a) (hy : ρ y = str b) (ho : op = .eql ∨ op = .neq) (hk : g (.bool (if op = .eql then decide (a = b) else !decide (a = b)))) : Rd P ρ o w g := by
  have hg : ∀ op, eqGuard op t x y (str a) (str b) = pure () := fun op => by cases op <;> simp [eqGuard]
  rcases ho with rfl | rfl
  · refine rd_bin hop (by rw [hx, hy]; exact hg _) (fun w' => ?_) hk
    simp only [hx, hy, binOp_string_eql, bytes_eq, Sem.run_pure]
    rfl
  · refine rd_bin hop (by rw [hx, hy]; exact hg _) (fun w' => ?_) hk
    simp only [hx, hy, binOp_string_neq, bytes_eq, Sem.run_pure]
    rfl
end Go.Proofs.YteabebmlclgakaaGreat
