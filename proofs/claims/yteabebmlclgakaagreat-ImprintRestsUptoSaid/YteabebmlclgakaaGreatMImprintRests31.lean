/- MImprintRests31: StaFew, Book1. -/
import Derived.Test.YteabebmlclgakaaGreatMImprintRests8
import Derived.Test.YteabebmlclgakaaGreatMImprintRests21
import Derived.Test.YteabebmlclgakaaGreatMImprintRests30
/- StaFew: how much there is of a state. Of states of a bounded bulk. -/
namespace Go.Proofs.YteabebmlclgakaaGreat
set_option linter.unusedSimpArgs false
set_option linter.unusedVariables false
open Go.RowKit
set_option maxRecDepth 100000
set_option maxHeartbeats 2000000
def blN (b : Blob) : Nat := 10 + b.data.l.length
def wiN (b : Blk) : Nat := 10 + b.tx.l.length
def fewN (x : Sta) : Nat := x.ses.l.length + (x.blobs.l.map blN).sum + (x.win.l.map wiN).sum + 10 * x.jobs.l.length
def fewS (x : Sta) : Bool := x.jobs.l.all (fun j => fewP j.pay) && decide (fewN x ≤ 6000)
theorem sum_step {α : Type} {l : List α} {i : Nat} {x : α} (f : α → Nat) (h : l[i]? = some x) : ((l.take (i + 1)).map f).sum = ((l.take i).map f).sum + f x := by
  rw [List.take_add_one, h]
  simp
theorem sum_len {α : Type} {f : α → Nat} {M : Nat} : ∀ {l : List α}, (∀ x ∈ l, f x ≤ M) → (l.map f).sum ≤ l.length * M
  | [], _ => by simp
  | x :: l, h => by
    have h1 := h x (by simp)
    have h2 := sum_len (l := l) fun y hy => h y (by simp [hy])
    rw [List.map_cons, List.sum_cons, List.length_cons, Nat.succ_mul]
    omega
theorem sum_mem {α : Type} {f : α → Nat} : ∀ {l : List α} {x : α}, x ∈ l → f x ≤ (l.map f).sum
  | y :: l, x, h => by
    rw [List.map_cons, List.sum_cons]
    rcases List.mem_cons.1 h with rfl | h
    · omega
    · have := sum_mem (f := f) h
      omega
theorem sum_ge {α : Type} {f : α → Nat} {m : Nat} : ∀ {l : List α}, (∀ x ∈ l, m ≤ f x) → l.length * m ≤ (l.map f).sum
  | [], _ => by simp
  | x :: l, h => by
    have h1 := h x (by simp)
    have h2 := sum_ge (l := l) fun y hy => h y (by simp [hy])
    rw [List.map_cons, List.sum_cons, List.length_cons, Nat.succ_mul]
    omega
/-- what is few is so of each part -/
structure FewI (x : Sta) : Prop where
  ses : x.ses.l.length ≤ 6000
  blobs : x.blobs.l.length ≤ 600
  win : x.win.l.length ≤ 600
  jobs : x.jobs.l.length ≤ 600
  data : ∀ b ∈ x.blobs.l, b.data.l.length ≤ 6000
  tx : ∀ b ∈ x.win.l, b.tx.l.length ≤ 6000
  pay : ∀ j ∈ x.jobs.l, fewP j.pay = true
theorem fewS_at {x : Sta} (h : fewS x = true) : FewI x := by
  unfold fewS at h
  rw [Bool.and_eq_true, List.all_eq_true, decide_eq_true_eq] at h
  obtain ⟨h1, h2⟩ := h
  unfold fewN at h2
  have h3 := sum_ge (f := blN) (m := 10) (l := x.blobs.l) fun y _ => Nat.le_add_right _ _
  have h4 := sum_ge (f := wiN) (m := 10) (l := x.win.l) fun y _ => Nat.le_add_right _ _
  refine ⟨by omega, by omega, by omega, by omega, fun b hb => ?_, fun b hb => ?_, h1⟩
  · have := sum_mem (f := blN) hb
    have e : blN b = 10 + b.data.l.length := rfl
    omega
  · have := sum_mem (f := wiN) hb
    have e : wiN b = 10 + b.tx.l.length := rfl
    omega
theorem few31_any {B : Nat} {w0 : World} {x : Sta} (h : StaAt B w0 x) (hb : StaB 1048576 x) : Calls Tryz.prog 9 #[x.v] w0 fun e w' => e = .returned (.bool (fewS x)) ∧ Chg N0 w0 w' := by
  have hp := Hp.start (S := N0) w0
  have hB : ∀ b, N0 b → B ≤ b := fun _ hh => hh.elim
  have u1 := Tryz.underlying27
  have u2 := Tryz.underlying28
  have u3 := Tryz.underlying26
  have u4 := Tryz.underlying29
  have u5 := Tryz.underlying38
  have u6 := Tryz.underlying52
  have hs1 := hb.ses
  have hs2 := hb.blobs
  have hs3 := hb.win
  have hs4 := hb.jobs
  have ht1 : ∀ i, ((x.blobs.l.take i).map blN).sum ≤ 1048576 * 1048586 := fun i => by
    refine Nat.le_trans (sum_len (M := 1048586) fun y hy => ?_) (Nat.mul_le_mul_right _ (Nat.le_trans (List.length_take_le' ..) hs2))
    have := hb.data y (List.mem_of_mem_take hy)
    unfold blN
    omega
  have ht2 : ∀ i, ((x.win.l.take i).map wiN).sum ≤ 1048576 * 1048586 := fun i => by
    refine Nat.le_trans (sum_len (M := 1048586) fun y hy => ?_) (Nat.mul_le_mul_right _ (Nat.le_trans (List.length_take_le' ..) hs3))
    have := hb.tx y (List.mem_of_mem_take hy)
    unfold wiN
    omega
  obtain ⟨N1, hN1⟩ : ∃ n, (x.blobs.l.map blN).sum = n := ⟨_, rfl⟩
  obtain ⟨N2, hN2⟩ : ∃ n, (x.win.l.map wiN).sum = n := ⟨_, rfl⟩
  have hN1b : N1 ≤ 1048576 * 1048586 := by have := ht1 x.blobs.l.length; rw [List.take_length, hN1] at this; exact this
  have hN2b : N2 ≤ 1048576 * 1048586 := by have := ht2 x.win.l.length; rw [List.take_length, hN2] at this; exact this
  refine calls_x (args := [_]) tabOk Tryz.func9 Tryz.ntmps9 Tryz.results9 rfl (Nat.le_of_ble_eq_true rfl) ?_
  ((conv => whnf); repeat' ((first | ((with_reducible refine ld_id ?_); (apply ld_hs hp; (focus ((repeat (first | exact Has.here | apply Has.there)); done)); exact rfl)) | ((with_reducible refine al_id ?_); (refine al_cel hp ?_; clear hp; intro bb w hp)) | ((with_reducible refine gen_id ?_); (apply gen_len; exact rfl; exact rfl; assumption))) <;> (conv => whnf)))
  refine lp_inv (α := Nat) (fun i => [(1, ptr bb), (3, i64 (x.ses.l.length + ((x.blobs.l.take i).map blN).sum : Nat)), (4, i64 i)]) (fun i w => i ≤ x.blobs.l.length ∧ Hp N0 w0 w [cel bb 31 x.c.toArray]) (fun i => x.blobs.l.length - i) 0 (by (repeat' (first | exact trivial | (refine ⟨rfl, ?_⟩)))) ⟨by omega, hp⟩ ?_
  clear hp
  rintro i e0 w ⟨hi, hp⟩
  dsimp only at hi hp ⊢
  have hn := ht1 i
  rcases Nat.lt_or_ge i x.blobs.l.length with hlt | hge
  · obtain ⟨b, o, y, hA, hbb, hrow, hyy⟩ := h.blobs.row.has hlt
    have hy := hb.data y (List.mem_of_getElem? hyy)
    have hst := sum_step blN hyy
    have hd : blN y = 10 + y.data.l.length := rfl
    generalize ((x.blobs.l.take i).map blN).sum = n at hn hst ⊢
    ((conv => whnf); repeat' ((first | ((with_reducible refine br_id ?_); ((with_reducible refine br_dec (fun hx => ?_) (fun hx => ?_)) <;> (try (exfalso; first | omega | exact absurd hx (by assumption) | exact absurd (by assumption) hx)))) | ((with_reducible refine ar_id ?_); first | ((refine ar_n ((x.ses.l.length + n + 10 + y.data.l.length)) (by omega) (by omega) ?_)) | ((refine ar_n ((x.ses.l.length + n + 10)) (by omega) (by omega) ?_)) | (refine ar_i64 (by omega) ?_)) | ((with_reducible refine ld_id ?_); first | ((refine ld_row hp hB (by assumption) (by assumption) _ _ rfl (by assumption) (by rfl) ?_)) | (apply ld_hs hp; (focus ((repeat (first | exact Has.here | apply Has.there)); done)); exact rfl)) | ((with_reducible refine gen_id ?_); first | ((refine gen_ixs rfl rfl (by assumption) rfl rfl (by omega) ?_)) | (apply gen_len; exact rfl; exact rfl; assumption))) <;> (conv => whnf)))
    exact lp_next (i + 1) (by show x.blobs.l.length - (i + 1) < x.blobs.l.length - i; omega) ⟨rfl, by show i64 _ = i64 _; rw [hst, hd]; congr 1; omega, rfl, trivial⟩ ⟨by show i + 1 ≤ _; omega, hp⟩
  rw [List.take_of_length_le hge, hN1]
  clear hn
  ((conv => whnf); repeat' ((first | ((with_reducible refine br_id ?_); ((with_reducible refine br_dec (fun hx => ?_) (fun hx => ?_)) <;> (try (exfalso; first | omega | exact absurd hx (by assumption) | exact absurd (by assumption) hx)))) | ((with_reducible refine ld_id ?_); (apply ld_hs hp; (focus ((repeat (first | exact Has.here | apply Has.there)); done)); exact rfl)) | ((with_reducible refine gen_id ?_); (apply gen_len; exact rfl; exact rfl; assumption))) <;> (conv => whnf)))
  refine lp_inv (α := Nat) (fun i => [(1, ptr bb), (3, i64 (x.ses.l.length + N1 + ((x.win.l.take i).map wiN).sum : Nat)), (5, i64 i)]) (fun i w => i ≤ x.win.l.length ∧ Hp N0 w0 w [cel bb 31 x.c.toArray]) (fun i => x.win.l.length - i) 0 (by (repeat' (first | exact trivial | (refine ⟨rfl, ?_⟩)))) ⟨by omega, hp⟩ ?_
  clear hp hi hge
  rintro i e0 w ⟨hi, hp⟩
  dsimp only at hi hp ⊢
  have hn := ht2 i
  rcases Nat.lt_or_ge i x.win.l.length with hlt | hge
  · obtain ⟨b, o, y, hA, hbb, hrow, hyy⟩ := h.win.has hlt
    have hy := hb.tx y (List.mem_of_getElem? hyy)
    have hst := sum_step wiN hyy
    have hd : wiN y = 10 + y.tx.l.length := rfl
    generalize ((x.win.l.take i).map wiN).sum = n at hn hst ⊢
    ((conv => whnf); repeat' ((first | ((with_reducible refine br_id ?_); ((with_reducible refine br_dec (fun hx => ?_) (fun hx => ?_)) <;> (try (exfalso; first | omega | exact absurd hx (by assumption) | exact absurd (by assumption) hx)))) | ((with_reducible refine ar_id ?_); first | ((refine ar_n ((x.ses.l.length + N1 + n + 10 + y.tx.l.length)) (by omega) (by omega) ?_)) | ((refine ar_n ((x.ses.l.length + N1 + n + 10)) (by omega) (by omega) ?_)) | (refine ar_i64 (by omega) ?_)) | ((with_reducible refine ld_id ?_); first | ((refine ld_row hp hB (by assumption) (by assumption) _ _ rfl (by assumption) (by rfl) ?_)) | (apply ld_hs hp; (focus ((repeat (first | exact Has.here | apply Has.there)); done)); exact rfl)) | ((with_reducible refine gen_id ?_); first | ((refine gen_ixs rfl rfl (by assumption) rfl rfl (by omega) ?_)) | (apply gen_len; exact rfl; exact rfl; assumption))) <;> (conv => whnf)))
    exact lp_next (i + 1) (by show x.win.l.length - (i + 1) < x.win.l.length - i; omega) ⟨rfl, by show i64 _ = i64 _; rw [hst, hd]; congr 1; omega, rfl, trivial⟩ ⟨by show i + 1 ≤ _; omega, hp⟩
  rw [List.take_of_length_le hge, hN2]
  clear hn
  ((conv => whnf); repeat' ((first | ((with_reducible refine br_id ?_); ((with_reducible refine br_dec (fun hx => ?_) (fun hx => ?_)) <;> (try (exfalso; first | omega | exact absurd hx (by assumption) | exact absurd (by assumption) hx)))) | ((with_reducible refine ld_id ?_); (apply ld_hs hp; (focus ((repeat (first | exact Has.here | apply Has.there)); done)); exact rfl)) | ((with_reducible refine gen_id ?_); (apply gen_len; exact rfl; exact rfl; assumption))) <;> (conv => whnf)))
  refine lp_inv (α := Nat) (fun i => [(1, ptr bb), (3, i64 (x.ses.l.length + N1 + N2 + 10 * i : Nat)), (6, i64 i)]) (fun i w => i ≤ x.jobs.l.length ∧ (∀ j ∈ x.jobs.l.take i, fewP j.pay = true) ∧ Hp N0 w0 w [cel bb 31 x.c.toArray]) (fun i => x.jobs.l.length - i) 0 (by (repeat' (first | exact trivial | (refine ⟨rfl, ?_⟩)))) ⟨by omega, by simp, hp⟩ ?_
  clear hp hi hge
  rintro i e0 w ⟨hi, hall, hp⟩
  dsimp only at hi hall hp ⊢
  rcases Nat.lt_or_ge i x.jobs.l.length with hlt | hge
  · obtain ⟨b, o, y, hA, hbb, hrow, hyy⟩ := h.jobs.has hlt
    have hmem := List.mem_of_getElem? hyy
    have hpy := h.pay y hmem
    have hpl : ((Job.c y).drop 37).take 1 = [y.pay.v] := rfl
    obtain ⟨q, hq⟩ : ∃ q, fewP y.pay = q := ⟨_, rfl⟩
    have hf : ∀ {w : World}, Chg N0 w0 w → Calls Tryz.prog 42 #[y.pay.pv] w fun e w' => e = .returned (.bool q) ∧ Chg N0 w w' := fun hc => by rw [← hq]; exact few13_any (hpy.keep hc hB)
    cases q with
    | false =>
      ((conv => whnf); repeat' ((first | ((with_reducible refine br_id ?_); first | (with_reducible refine br_f ?_) | (with_reducible refine br_not ?_) | ((with_reducible refine br_dec (fun hx => ?_) (fun hx => ?_)) <;> (try (exfalso; first | omega | exact absurd hx (by assumption) | exact absurd (by assumption) hx)))) | ((with_reducible refine ld_id ?_); (apply ld_hs hp; (focus ((repeat (first | exact Has.here | apply Has.there)); done)); exact rfl)) | ((with_reducible refine ldn_id ?_); ((refine ldn_row hp hB (by assumption) (by assumption) _ _ rfl (by assumption) (by rfl) (by rfl) ?_))) | ((with_reducible refine gen_id ?_); first | ((refine gen_ixs rfl rfl (by assumption) rfl rfl (by omega) ?_)) | (apply gen_len; exact rfl; exact rfl; assumption)) | ((with_reducible refine cl_id ?_); ((refine cl_eq ((hf hp.chg)) rfl rfl ?_; rintro e w ⟨rfl, hcc⟩; replace hp := hp.call0 hcc; refine ⟨_, rfl, ?_⟩)))) <;> (conv => whnf)))
      refine ps_val (v' := .bool false) rfl ⟨?_, hp.chg⟩
      have : fewS x = false := by
        unfold fewS
        rw [Bool.and_eq_false_iff]
        exact .inl (List.all_eq_false.2 ⟨y, hmem, by rw [hq]; simp⟩)
      rw [this]
    | true =>
      ((conv => whnf); repeat' ((first | ((with_reducible refine br_id ?_); first | (with_reducible refine br_t ?_) | (with_reducible refine br_not ?_) | ((with_reducible refine br_dec (fun hx => ?_) (fun hx => ?_)) <;> (try (exfalso; first | omega | exact absurd hx (by assumption) | exact absurd (by assumption) hx)))) | ((with_reducible refine ar_id ?_); first | ((refine ar_n ((x.ses.l.length + N1 + N2 + 10 * (i + 1))) (by omega) (by omega) ?_)) | (refine ar_i64 (by omega) ?_)) | ((with_reducible refine ld_id ?_); (apply ld_hs hp; (focus ((repeat (first | exact Has.here | apply Has.there)); done)); exact rfl)) | ((with_reducible refine ldn_id ?_); ((refine ldn_row hp hB (by assumption) (by assumption) _ _ rfl (by assumption) (by rfl) (by rfl) ?_))) | ((with_reducible refine gen_id ?_); first | ((refine gen_ixs rfl rfl (by assumption) rfl rfl (by omega) ?_)) | (apply gen_len; exact rfl; exact rfl; assumption)) | ((with_reducible refine cl_id ?_); ((refine cl_eq ((hf hp.chg)) rfl rfl ?_; rintro e w ⟨rfl, hcc⟩; replace hp := hp.call0 hcc; refine ⟨_, rfl, ?_⟩)))) <;> (conv => whnf)))
      refine lp_next (i + 1) (by show x.jobs.l.length - (i + 1) < x.jobs.l.length - i; omega) (by (repeat' (first | exact trivial | (refine ⟨rfl, ?_⟩)))) ⟨by show i + 1 ≤ _; omega, fun j hj => ?_, hp⟩
      rw [List.take_add_one, hyy] at hj
      rcases List.mem_append.1 hj with hj | hj
      · exact hall j hj
      · simp at hj
        subst hj
        exact hq
  · rw [List.take_of_length_le hge] at hall
    have : i = x.jobs.l.length := by omega
    subst this
    ((conv => whnf); repeat' ((first | ((with_reducible refine br_id ?_); ((with_reducible refine br_dec (fun hx => ?_) (fun hx => ?_)) <;> (try (exfalso; first | omega | exact absurd hx (by assumption) | exact absurd (by assumption) hx)))) | ((with_reducible refine ld_id ?_); (apply ld_hs hp; (focus ((repeat (first | exact Has.here | apply Has.there)); done)); exact rfl)) | ((with_reducible refine gen_id ?_); (apply gen_len; exact rfl; exact rfl; assumption))) <;> (conv => whnf)))
    refine ps_val (v' := .bool (decide (((x.ses.l.length + N1 + N2 + 10 * x.jobs.l.length : Nat) : Int) ≤ 6000))) rfl ⟨?_, hp.chg⟩
    have : fewS x = decide (((x.ses.l.length + N1 + N2 + 10 * x.jobs.l.length : Nat) : Int) ≤ 6000) := by
      unfold fewS
      rw [List.all_eq_true.2 hall, Bool.true_and]
      refine decide_eq_decide.2 ?_
      unfold fewN
      rw [hN1, hN2]
      omega
    rw [this]
end Go.Proofs.YteabebmlclgakaaGreat
/- Book1: package book: Sound, halts; how sessions and blobs are loaded. Of states that are few. -/
namespace Go.Proofs.YteabebmlclgakaaGreat
set_option linter.unusedSimpArgs false
set_option linter.unusedVariables false
open Go.RowKit
set_option maxRecDepth 100000
set_option maxHeartbeats 4000000
theorem bin_any (w0 : World) (n m : Int) : Calls Tryz.prog 103 #[i64 n, i64 m] w0 fun e w' => e = .returned (.bool (decide (1 ≤ n ∧ n ≤ m))) ∧ Chg N0 w0 w' := by
  have hp := Hp.start (S := N0) w0
  by_cases h1 : 1 ≤ n
  · refine calls_x (args := [_, _]) tabOk Tryz.func103 Tryz.ntmps103 Tryz.results103 rfl (Nat.le_of_ble_eq_true rfl) ?_
    ((conv => whnf); repeat' (((with_reducible refine br_id ?_); first | (with_reducible refine br_t ?_) | ((with_reducible refine br_dec (fun hx => ?_) (fun hx => ?_)) <;> (try (exfalso; first | omega | exact absurd hx (by assumption) | exact absurd (by assumption) hx)))) <;> (conv => whnf)))
    all_goals exact ps_val (v' := .bool (decide (n ≤ m))) rfl ⟨congrArg (fun b => Ending.returned (.bool b)) (decide_eq_decide.2 (by omega)), hp.chg⟩
  · refine calls_x (args := [_, _]) tabOk Tryz.func103 Tryz.ntmps103 Tryz.results103 rfl (Nat.le_of_ble_eq_true rfl) ?_
    ((conv => whnf); repeat' (((with_reducible refine br_id ?_); first | (with_reducible refine br_f ?_) | ((with_reducible refine br_dec (fun hx => ?_) (fun hx => ?_)) <;> (try (exfalso; first | omega | exact absurd hx (by assumption) | exact absurd (by assumption) hx)))) <;> (conv => whnf)))
    all_goals exact ps_val (v' := .bool false) rfl ⟨congrArg (fun b => Ending.returned (.bool b)) (decide_eq_false (by omega)).symm, hp.chg⟩
theorem halts_any (w0 : World) (e : Int) : Calls Tryz.prog 60 #[i64 e] w0 fun r w' => r = .returned (.bool (haltE e)) ∧ Chg N0 w0 w' := by
  have hp := Hp.start (S := N0) w0
  refine calls_x (args := [_]) tabOk Tryz.func60 Tryz.ntmps60 Tryz.results60 rfl (Nat.le_of_ble_eq_true rfl) ?_
  ((conv => whnf); repeat' (((with_reducible refine br_id ?_); first | (with_reducible refine br_t ?_) | ((with_reducible refine br_eq (fun hx => ?_) (fun hx => ?_)) <;> (try (exfalso; first | omega | exact absurd hx (by assumption) | exact absurd (by assumption) hx)))) <;> (conv => whnf)))
  all_goals first
    | exact ps_val (v' := .bool true) rfl ⟨by rw [show haltE e = true from decide_eq_true (by omega)], hp.chg⟩
    | exact ps_val (v' := .bool false) rfl ⟨by rw [show haltE e = false from decide_eq_false (by omega)], hp.chg⟩
theorem sound_any (w0 : World) (c : Cfg) : Calls Tryz.prog 59 #[c.v] w0 fun e w' => e = .returned (.bool (soundC c)) ∧ Chg N0 w0 w' := by
  have hp := Hp.start (S := N0) w0
  obtain ⟨q1, h1⟩ : ∃ q, decide (1 ≤ c.dep ∧ c.dep ≤ 16) = q := ⟨_, rfl⟩
  obtain ⟨q2, h2⟩ : ∃ q, decide (1 ≤ c.stp ∧ c.stp ≤ 1000) = q := ⟨_, rfl⟩
  obtain ⟨q3, h3⟩ : ∃ q, decide (1 ≤ c.kep ∧ c.kep ≤ 65535) = q := ⟨_, rfl⟩
  obtain ⟨q4, h4⟩ : ∃ q, decide (1 ≤ c.ses ∧ c.ses ≤ 64) = q := ⟨_, rfl⟩
  obtain ⟨q5, h5⟩ : ∃ q, decide (1 ≤ c.cap ∧ c.cap ≤ 65536) = q := ⟨_, rfl⟩
  obtain ⟨q6, h6⟩ : ∃ q, decide (1 ≤ c.com ∧ c.com ≤ 65536) = q := ⟨_, rfl⟩
  have hS : soundC c = (q1 && (q2 && (q3 && (q4 && (q5 && q6))))) := by
    unfold soundC
    rw [← h1, ← h2, ← h3, ← h4, ← h5, ← h6, Bool.eq_iff_iff]
    simp only [decide_eq_true_eq, Bool.and_eq_true]
  have c1 := fun w => bin_any w c.dep 16
  have c2 := fun w => bin_any w c.stp 1000
  have c3 := fun w => bin_any w c.kep 65535
  have c4 := fun w => bin_any w c.ses 64
  have c5 := fun w => bin_any w c.cap 65536
  have c6 := fun w => bin_any w c.com 65536
  rw [h1] at c1
  rw [h2] at c2
  rw [h3] at c3
  rw [h4] at c4
  rw [h5] at c5
  rw [h6] at c6
  rw [hS]
  clear hS h1 h2 h3 h4 h5 h6
  refine calls_x (args := [_]) tabOk Tryz.func59 Tryz.ntmps59 Tryz.results59 rfl (Nat.le_of_ble_eq_true rfl) ?_
  ((conv => whnf); repeat' ((first | ((with_reducible refine br_id ?_); first | (with_reducible refine br_t ?_) | (with_reducible refine br_f ?_) | ((with_reducible refine br_s (fun hx => ?_) (fun hx => ?_)) <;> (try (exfalso; first | omega | exact absurd hx (by assumption) | exact absurd (by assumption) hx)))) | ((with_reducible refine ld_id ?_); (apply ld_hs hp; (focus ((repeat (first | exact Has.here | apply Has.there)); done)); exact rfl)) | ((with_reducible refine al_id ?_); (refine al_cel hp ?_; clear hp; intro bb w hp)) | ((with_reducible refine cl_id ?_); first | ((refine cl_eq ((c1 _)) rfl rfl ?_; rintro e w ⟨rfl, hcc⟩; replace hp := hp.call0 hcc; refine ⟨_, rfl, ?_⟩)) | ((refine cl_eq ((c2 _)) rfl rfl ?_; rintro e w ⟨rfl, hcc⟩; replace hp := hp.call0 hcc; refine ⟨_, rfl, ?_⟩)) | ((refine cl_eq ((c3 _)) rfl rfl ?_; rintro e w ⟨rfl, hcc⟩; replace hp := hp.call0 hcc; refine ⟨_, rfl, ?_⟩)) | ((refine cl_eq ((c4 _)) rfl rfl ?_; rintro e w ⟨rfl, hcc⟩; replace hp := hp.call0 hcc; refine ⟨_, rfl, ?_⟩)) | ((refine cl_eq ((c5 _)) rfl rfl ?_; rintro e w ⟨rfl, hcc⟩; replace hp := hp.call0 hcc; refine ⟨_, rfl, ?_⟩)) | ((refine cl_eq ((c6 _)) rfl rfl ?_; rintro e w ⟨rfl, hcc⟩; replace hp := hp.call0 hcc; refine ⟨_, rfl, ?_⟩)))) <;> (conv => whnf)))
  all_goals first
    | exact ps_val (v' := .bool q6) rfl ⟨by simp_all, hp.chg⟩
    | exact ps_val (v' := .bool false) rfl ⟨by simp_all, hp.chg⟩
end Go.Proofs.YteabebmlclgakaaGreat
