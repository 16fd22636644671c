/- Pool3: functions made; the closure of Has; submissions' cells. -/
import Derived.Test.YthcapeihhldpcaaPool2
import Derived.Test.YthcapeihhldpcaaRange
import Derived.Test.YthcapeihhldpcaaElId
namespace Go.Proofs.Ythcapeihhldpcaa
set_option linter.unusedSimpArgs false
set_option linter.unusedVariables false
open Go.RowKit
set_option maxRecDepth 100000
set_option maxHeartbeats 2000000

theorem gen_makeFunc {P : Program} {ρ : Operand → Value} {o : Oper} {g : Value → World → Prop} {w : World} {fn : Fn} {a b : Array Operand} (hop : o.op = .makeFunc fn a b) {v : Value} (hv : .func fn (a.toList.map ρ).toArray (b.toList.map ρ).toArray = v) (h : g v w) : Gen P ρ o w g := by
  have e : ∀ a : Array Operand, (a.toList.map ρ).toArray = a.map ρ := fun a => by apply Array.ext'; simp
  rw [e, e] at hv
  subst hv
  exact gen_v (by simp [execOp, hop, Instr.makeFunc]) h
theorem ldn_heap3 {w : World} {b n : Nat} {t : TypeId} {l : List Value} {k : Value → Prop} (h : w.heap[b]? = some (.cells l.toArray t)) (hl : l.length = n) (hk : k (.agg l.toArray)) : LdN w ⟨b, 0, none⟩ n k := by
  refine ldn_of hl (fun i v hi => ?_) hk
  have := cell_of_heap (i := i) h (v := v) (by simpa using hi)
  have e : (⟨b, 0, none⟩ : Addr).add i = ⟨b, i, none⟩ := by simp only [Addr.add]; split <;> simp_all
  rw [e]
  exact this
theorem has1_any {w0 : World} (x : Wt) (id : Id) {b : Nat} (h : w0.heap[b]? = some (.cells id.c.toArray 55)) : Calls Try.prog 121 #[x.v, ptr b] w0 fun e w' => e = .returned (.bool (decide (x.id = id))) ∧ Chg N0 w0 w' := by
  have hp := Hp.start (S := N0) w0
  refine calls_x (args := [_, _]) tabOk Try.func121 Try.ntmps121 Try.results121 rfl (Nat.le_of_ble_eq_true rfl) ?_
  ((conv => whnf); repeat' ((first | ((with_reducible refine br_id ?_); first | (with_reducible (first | refine br_t ?_ | refine br_f ?_ | refine br_not ?_)) | ((with_reducible (first | refine br_dec (fun hx => ?_) (fun hx => ?_) | refine br_eq (fun hx => ?_) (fun hx => ?_) | refine br_ne (fun hx => ?_) (fun hx => ?_) | refine br_s (fun hx => ?_) (fun hx => ?_))) <;> (try (exfalso; first | omega | exact absurd hx (by assumption) | exact absurd (by assumption) hx)))) | ((with_reducible refine ar_id ?_); first | (refine ar_i64 (by omega) ?_) | (refine ar_u32 (by omega) ?_) | (refine ar_u64 (by omega) ?_) | (refine ar_u8 (by omega) ?_)) | ((with_reducible refine cn_id ?_); first | (refine cn rfl ?_) | (refine cn (by assumption) ?_) | (refine cn (by omega) ?_) | (refine cn (Chg.refl _ _) ?_)) | ((with_reducible refine ld_id ?_); first | (apply ld_hs hp; (focus ((repeat (first | exact Has.here | apply Has.there)); done)); exact rfl) | (refine ld_of (by assumption) ?_)) | ((with_reducible refine ldn_id ?_); first | ((refine ldn_heap3 (hp.chg.heap h fun hh => hh) rfl ?_)) | (apply lda_hs hp; (focus ((repeat (first | exact Has.here | apply Has.there)); done)); exact rfl) | (apply ldn_hs hp; (focus ((repeat (first | exact Has.here | apply Has.there)); done)); exact rfl; exact rfl)) | ((with_reducible refine al_id ?_); first | (refine al_cel hp ?_; clear hp; intro bb w hp)) | ((with_reducible refine st_id ?_); first | (apply sta_hs hp; (focus ((repeat (first | exact Has.here | apply Has.there)); done)); exact rfl; exact rfl; clear hp; intro w hp; (try dsimp only [List.set] at hp)) | (apply st_hs hp; (focus ((repeat (first | exact Has.here | apply Has.there)); done)); exact rfl; exact rfl; clear hp; intro w hp; (try dsimp only [List.set] at hp))) | ((with_reducible refine gen_id ?_); first | ((refine gen_eqa rfl rfl rfl (eq_id x.id id) (by kernel_rfl) (.inl rfl) ?_)) | (apply gen_build; exact rfl; exact rfl) | (apply gen_len; exact rfl; exact rfl; assumption) | (apply gen_min; exact rfl; exact rfl; exact rfl) | (apply gen_max; exact rfl; exact rfl; exact rfl) | (apply gen_ix; exact rfl; exact rfl; exact rfl; exact rfl; omega) | (apply gen_ixa; exact rfl; exact rfl; exact rfl; exact rfl; omega)) | ((with_reducible refine dr_id ?_); first | (refine dr_auto tabOk (by kernel_rfl) (by decide +kernel) ?_; (try replace hp := hp.drew)) | (refine dr_autog tabOk (by kernel_rfl) (by decide +kernel) ?_; (try replace hp := hp.drew)) | (refine dr_autot tabOk (by kernel_rfl) (by decide +kernel) ?_; (try replace hp := hp.drew))) | ((with_reducible refine fk_id ?_); first | (refine fk_mk ?_ ?_)) | ((with_reducible refine rd_id ?_); first | (apply rd_len; exact rfl; exact rfl; assumption) | (apply rd_ix; exact rfl; exact rfl; exact rfl; exact rfl; omega))) <;> (conv => whnf)))
  exact ps_val (v' := .bool (decide (x.id = id))) rfl ⟨rfl, hp.chg⟩
theorem el_sub : ElT Try.prog 91 96 37 80 := elt_of (z := Sub.z.v) Try.underlying91 (by kernel_rfl) rfl (by omega)
theorem sub_one {l : List Sub} : ∀ x ∈ l, ∀ u ∈ Sub.c x, u.oneCell' = true := fun x _ u hu => List.all_eq_true.1 (show (Sub.c x).all Value.oneCell' = true from rfl) u hu
end Go.Proofs.Ythcapeihhldpcaa
