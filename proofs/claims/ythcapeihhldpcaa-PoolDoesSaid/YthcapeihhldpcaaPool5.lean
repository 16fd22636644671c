/- Pool: the document's Find; the pure part of the law PoolLast. -/
import Derived.Test.YthcapeihhldpcaaPool3
import Derived.Test.YthcapeihhldpcaaEq
namespace Go.Proofs.Ythcapeihhldpcaa
set_option linter.unusedSimpArgs false
set_option linter.unusedVariables false
open Go.RowKit
set_option maxRecDepth 100000
set_option maxHeartbeats 2000000

theorem find33_any {B : Nat} {w0 : World} {s : Sl Sub} (h : SlAt B w0 Sub.c 37 s) (hn : s.l.length ≤ 1000) (k : Key) : Calls Try.prog 59 #[s.v, k.v] w0 fun e w' =>
    ∃ m : Int, e = .returned (i64 m) ∧ Chg N0 w0 w' ∧ ((m = -1 ∧ ∀ x ∈ s.l, x.key ≠ k) ∨ ∃ (n : Nat) (x : Sub), m = n ∧ s.l[n]? = some x ∧ x.key = k) := by
  have hp := Hp.start (S := N0) w0
  have u1 := Try.underlying91
  have hB : ∀ b, N0 b → B ≤ b := fun _ hh => hh.elim
  refine calls_x (args := [_, _]) tabOk Try.func59 Try.ntmps59 Try.results59 rfl (Nat.le_of_ble_eq_true rfl) ?_
  ((conv => whnf); repeat' ((first | ((with_reducible refine br_id ?_); first | (with_reducible (first | refine br_t ?_ | refine br_f ?_ | refine br_not ?_)) | ((with_reducible (first | refine br_dec (fun hx => ?_) (fun hx => ?_) | refine br_eq (fun hx => ?_) (fun hx => ?_) | refine br_ne (fun hx => ?_) (fun hx => ?_) | refine br_s (fun hx => ?_) (fun hx => ?_))) <;> (try (exfalso; first | omega | exact absurd hx (by assumption) | exact absurd (by assumption) hx)))) | ((with_reducible refine ar_id ?_); first | (refine ar_i64 (by omega) ?_) | (refine ar_u32 (by omega) ?_) | (refine ar_u64 (by omega) ?_) | (refine ar_u8 (by omega) ?_)) | ((with_reducible refine cn_id ?_); first | (refine cn rfl ?_) | (refine cn (by assumption) ?_) | (refine cn (by omega) ?_) | (refine cn (Chg.refl _ _) ?_)) | ((with_reducible refine ld_id ?_); first | (apply ld_hs hp; (focus ((repeat (first | exact Has.here | apply Has.there)); done)); exact rfl) | (refine ld_of (by assumption) ?_)) | ((with_reducible refine ldn_id ?_); first | (apply lda_hs hp; (focus ((repeat (first | exact Has.here | apply Has.there)); done)); exact rfl) | (apply ldn_hs hp; (focus ((repeat (first | exact Has.here | apply Has.there)); done)); exact rfl; exact rfl)) | ((with_reducible refine al_id ?_); first | (refine al_cel hp ?_; clear hp; intro bb w hp)) | ((with_reducible refine st_id ?_); first | (apply sta_hs hp; (focus ((repeat (first | exact Has.here | apply Has.there)); done)); exact rfl; exact rfl; clear hp; intro w hp; (try dsimp only [List.set] at hp)) | (apply st_hs hp; (focus ((repeat (first | exact Has.here | apply Has.there)); done)); exact rfl; exact rfl; clear hp; intro w hp; (try dsimp only [List.set] at hp))) | ((with_reducible refine gen_id ?_); first | (apply gen_build; exact rfl; exact rfl) | (apply gen_len; exact rfl; exact rfl; assumption) | (apply gen_min; exact rfl; exact rfl; exact rfl) | (apply gen_max; exact rfl; exact rfl; exact rfl) | (apply gen_ix; exact rfl; exact rfl; exact rfl; exact rfl; omega) | (apply gen_ixa; exact rfl; exact rfl; exact rfl; exact rfl; omega)) | ((with_reducible refine dr_id ?_); first | (refine dr_auto tabOk (by kernel_rfl) (by decide +kernel) ?_; (try replace hp := hp.drew)) | (refine dr_autog tabOk (by kernel_rfl) (by decide +kernel) ?_; (try replace hp := hp.drew)) | (refine dr_autot tabOk (by kernel_rfl) (by decide +kernel) ?_; (try replace hp := hp.drew))) | ((with_reducible refine fk_id ?_); first | (refine fk_mk ?_ ?_)) | ((with_reducible refine rd_id ?_); first | (apply rd_len; exact rfl; exact rfl; assumption) | (apply rd_ix; exact rfl; exact rfl; exact rfl; exact rfl; omega))) <;> (conv => whnf)))
  refine lp_inv (α := Nat) (fun i => [(0, s.v), (3, ptr bb), (5, i64 i)]) (fun i w => i ≤ s.l.length ∧ (∀ (j : Nat) (x : Sub), j < i → s.l[j]? = some x → x.key ≠ k) ∧ Hp N0 w0 w [cel bb 93 #[u32 k.ses, u32 k.seq]]) (fun i => s.l.length - i) 0 (by (repeat' (first | exact trivial | (refine ⟨rfl, ?_⟩)))) ⟨by omega, fun j x hj => by omega, hp⟩ ?_
  clear hp
  rintro i e0 w ⟨hi, hall, hp⟩
  dsimp only at hi hall hp ⊢
  rcases Nat.lt_or_ge i s.l.length with hlt | hge
  · obtain ⟨b, o, x, hA, hb, hrow, hxx⟩ := h.has hlt
    ((conv => whnf); repeat' ((first | ((with_reducible refine br_id ?_); first | (with_reducible (first | refine br_t ?_ | refine br_f ?_ | refine br_not ?_)) | ((with_reducible (first | refine br_dec (fun hx => ?_) (fun hx => ?_) | refine br_eq (fun hx => ?_) (fun hx => ?_) | refine br_ne (fun hx => ?_) (fun hx => ?_) | refine br_s (fun hx => ?_) (fun hx => ?_))) <;> (try (exfalso; first | omega | exact absurd hx (by assumption) | exact absurd (by assumption) hx)))) | ((with_reducible refine ar_id ?_); first | (refine ar_i64 (by omega) ?_) | (refine ar_u32 (by omega) ?_) | (refine ar_u64 (by omega) ?_) | (refine ar_u8 (by omega) ?_)) | ((with_reducible refine cn_id ?_); first | (refine cn rfl ?_) | (refine cn (by assumption) ?_) | (refine cn (by omega) ?_) | (refine cn (Chg.refl _ _) ?_)) | ((with_reducible refine ld_id ?_); first | ((refine ld_row hp hB (by assumption) (by assumption) _ _ rfl (by assumption) (by rfl) ?_)) | ((refine ld_row0 hp hB (by assumption) (by assumption) _ rfl (by assumption) (by rfl) ?_)) | (apply ld_hs hp; (focus ((repeat (first | exact Has.here | apply Has.there)); done)); exact rfl) | (refine ld_of (by assumption) ?_)) | ((with_reducible refine ldn_id ?_); first | ((refine ldn_row hp hB (by assumption) (by assumption) _ _ rfl (by assumption) (by rfl) (by rfl) ?_)) | ((refine ldn_rowx hp hB (by assumption) (by assumption) _ rfl (by assumption) rfl ?_)) | ((refine ldn_row0 hp hB (by assumption) (by assumption) _ rfl (by assumption) (by rfl) (by rfl) ?_)) | (apply lda_hs hp; (focus ((repeat (first | exact Has.here | apply Has.there)); done)); exact rfl) | (apply ldn_hs hp; (focus ((repeat (first | exact Has.here | apply Has.there)); done)); exact rfl; exact rfl)) | ((with_reducible refine al_id ?_); first | (refine al_cel hp ?_; clear hp; intro bb w hp)) | ((with_reducible refine st_id ?_); first | (apply sta_hs hp; (focus ((repeat (first | exact Has.here | apply Has.there)); done)); exact rfl; exact rfl; clear hp; intro w hp; (try dsimp only [List.set] at hp)) | (apply st_hs hp; (focus ((repeat (first | exact Has.here | apply Has.there)); done)); exact rfl; exact rfl; clear hp; intro w hp; (try dsimp only [List.set] at hp))) | ((with_reducible refine gen_id ?_); first | ((refine gen_ixs rfl rfl (by assumption) rfl rfl (by omega) ?_)) | (apply gen_build; exact rfl; exact rfl) | (apply gen_len; exact rfl; exact rfl; assumption) | (apply gen_min; exact rfl; exact rfl; exact rfl) | (apply gen_max; exact rfl; exact rfl; exact rfl) | (apply gen_ix; exact rfl; exact rfl; exact rfl; exact rfl; omega) | (apply gen_ixa; exact rfl; exact rfl; exact rfl; exact rfl; omega)) | ((with_reducible refine dr_id ?_); first | (refine dr_auto tabOk (by kernel_rfl) (by decide +kernel) ?_; (try replace hp := hp.drew)) | (refine dr_autog tabOk (by kernel_rfl) (by decide +kernel) ?_; (try replace hp := hp.drew)) | (refine dr_autot tabOk (by kernel_rfl) (by decide +kernel) ?_; (try replace hp := hp.drew))) | ((with_reducible refine fk_id ?_); first | (refine fk_mk ?_ ?_)) | ((with_reducible refine rd_id ?_); first | ((refine rd_ixs rfl rfl (by assumption) rfl rfl (by omega) ?_)) | ((refine rd_eqa rfl rfl rfl (eq_key x.key k) (by kernel_rfl) (.inl rfl) ?_)) | (apply rd_len; exact rfl; exact rfl; assumption) | (apply rd_ix; exact rfl; exact rfl; exact rfl; exact rfl; omega))) <;> (conv => whnf)))
    · have he : x.key = k := by simpa using hx
      exact ps_val (v' := i64 i) rfl ⟨i, rfl, hp.chg, .inr ⟨i, x, rfl, hxx, he⟩⟩
    · have hne : x.key ≠ k := by simpa using hx
      refine lp_next (i + 1) (by show s.l.length - (i + 1) < s.l.length - i; omega) (by (repeat' (first | exact trivial | (refine ⟨rfl, ?_⟩)))) ⟨by show i + 1 ≤ _; omega, fun j y hj hy => ?_, hp⟩
      rcases Nat.lt_or_ge j i with hji | hji
      · exact hall j y hji hy
      · have : j = i := by omega
        subst this
        rw [hxx] at hy
        cases hy
        exact hne
  · ((conv => whnf); repeat' ((first | ((with_reducible refine br_id ?_); first | (with_reducible (first | refine br_t ?_ | refine br_f ?_ | refine br_not ?_)) | ((with_reducible (first | refine br_dec (fun hx => ?_) (fun hx => ?_) | refine br_eq (fun hx => ?_) (fun hx => ?_) | refine br_ne (fun hx => ?_) (fun hx => ?_) | refine br_s (fun hx => ?_) (fun hx => ?_))) <;> (try (exfalso; first | omega | exact absurd hx (by assumption) | exact absurd (by assumption) hx)))) | ((with_reducible refine ar_id ?_); first | (refine ar_i64 (by omega) ?_) | (refine ar_u32 (by omega) ?_) | (refine ar_u64 (by omega) ?_) | (refine ar_u8 (by omega) ?_)) | ((with_reducible refine cn_id ?_); first | (refine cn rfl ?_) | (refine cn (by assumption) ?_) | (refine cn (by omega) ?_) | (refine cn (Chg.refl _ _) ?_)) | ((with_reducible refine ld_id ?_); first | (apply ld_hs hp; (focus ((repeat (first | exact Has.here | apply Has.there)); done)); exact rfl) | (refine ld_of (by assumption) ?_)) | ((with_reducible refine ldn_id ?_); first | (apply lda_hs hp; (focus ((repeat (first | exact Has.here | apply Has.there)); done)); exact rfl) | (apply ldn_hs hp; (focus ((repeat (first | exact Has.here | apply Has.there)); done)); exact rfl; exact rfl)) | ((with_reducible refine al_id ?_); first | (refine al_cel hp ?_; clear hp; intro bb w hp)) | ((with_reducible refine st_id ?_); first | (apply sta_hs hp; (focus ((repeat (first | exact Has.here | apply Has.there)); done)); exact rfl; exact rfl; clear hp; intro w hp; (try dsimp only [List.set] at hp)) | (apply st_hs hp; (focus ((repeat (first | exact Has.here | apply Has.there)); done)); exact rfl; exact rfl; clear hp; intro w hp; (try dsimp only [List.set] at hp))) | ((with_reducible refine gen_id ?_); first | (apply gen_build; exact rfl; exact rfl) | (apply gen_len; exact rfl; exact rfl; assumption) | (apply gen_min; exact rfl; exact rfl; exact rfl) | (apply gen_max; exact rfl; exact rfl; exact rfl) | (apply gen_ix; exact rfl; exact rfl; exact rfl; exact rfl; omega) | (apply gen_ixa; exact rfl; exact rfl; exact rfl; exact rfl; omega)) | ((with_reducible refine dr_id ?_); first | (refine dr_auto tabOk (by kernel_rfl) (by decide +kernel) ?_; (try replace hp := hp.drew)) | (refine dr_autog tabOk (by kernel_rfl) (by decide +kernel) ?_; (try replace hp := hp.drew)) | (refine dr_autot tabOk (by kernel_rfl) (by decide +kernel) ?_; (try replace hp := hp.drew))) | ((with_reducible refine fk_id ?_); first | (refine fk_mk ?_ ?_)) | ((with_reducible refine rd_id ?_); first | (apply rd_len; exact rfl; exact rfl; assumption) | (apply rd_ix; exact rfl; exact rfl; exact rfl; exact rfl; omega))) <;> (conv => whnf)))
    refine ps_val (v' := i64 (-1)) rfl ⟨-1, rfl, hp.chg, .inl ⟨rfl, fun x hx => ?_⟩⟩
    obtain ⟨j, hj⟩ := List.getElem?_of_mem hx
    exact hall j x (by have := (List.getElem?_eq_some_iff.1 hj).1; omega) hj
section
variable {κ ν μ : Type} [DecidableEq κ]
theorem mput_map (f : ν → μ) (l : List (κ × ν)) (k : κ) (v : ν) : (mput l k v).map (fun p => (p.1, f p.2)) = mput (l.map fun p => (p.1, f p.2)) k (f v) := by
  have e : (l.map fun p => (p.1, f p.2)).map (·.1) = l.map (·.1) := by rw [List.map_map]; rfl
  unfold mput
  rw [e]
  split
  · rw [List.map_map, List.map_map]
    apply List.map_congr_left
    intro p _
    show (((if p.1 = k then (k, v) else p) : κ × ν).1, f ((if p.1 = k then (k, v) else p) : κ × ν).2) = if p.1 = k then (k, f v) else (p.1, f p.2)
    split <;> rfl
  · rw [List.map_append]
    rfl
theorem lookup_map (f : ν → μ) (k : κ) : ∀ (l : List (κ × ν)), (l.map fun p => (p.1, f p.2)).lookup k = (l.lookup k).map f
  | [] => rfl
  | p :: l => by
    rw [List.map_cons, List.lookup_cons, List.lookup_cons]
    cases (k == p.1) with
    | true => rfl
    | false => exact lookup_map f k l
theorem lookup_in {k : κ} {v : ν} : ∀ {l : List (κ × ν)}, (l.map (·.1)).Nodup → (k, v) ∈ l → l.lookup k = some v
  | [], _, h => by cases h
  | p :: l, hn, h => by
    rw [List.map_cons, List.nodup_cons] at hn
    rw [List.lookup_cons]
    rcases List.mem_cons.1 h with rfl | h
    · simp
    · have hne : ¬ k = p.1 := fun e => hn.1 (e ▸ List.mem_map_of_mem (f := fun x : κ × ν => x.1) h)
      have hb : (k == p.1) = false := by simpa using hne
      rw [hb]
      exact lookup_in hn.2 h
theorem lookup_out {k : κ} : ∀ {l : List (κ × ν)}, (∀ p ∈ l, p.1 ≠ k) → l.lookup k = none
  | [], _ => rfl
  | p :: l, h => by
    rw [List.lookup_cons]
    have hb : (k == p.1) = false := by simpa using fun e => h p (List.mem_cons_self ..) (Eq.symm e)
    rw [hb]
    exact lookup_out fun q hq => h q (List.mem_cons_of_mem _ hq)
theorem lookup_mputK {k : κ} {v : ν} : ∀ {l : List (κ × ν)}, (mput l k v).lookup k = some v := by
  intro l
  unfold mput
  split
  · rename_i h
    induction l with
    | nil => cases h
    | cons p l ih =>
      rw [List.map_cons, List.lookup_cons]
      by_cases hp : p.1 = k
      · rw [if_pos hp]; simp
      · rw [if_neg hp]
        have hb : (k == p.1) = false := by simpa using fun e => hp (Eq.symm e)
        rw [hb]
        rw [List.map_cons] at h
        exact ih ((List.mem_cons.1 h).resolve_left fun e => hp e.symm)
  · rename_i h
    induction l with
    | nil => simp
    | cons p l ih =>
      rw [List.map_cons, List.mem_cons] at h
      rw [List.cons_append, List.lookup_cons]
      have hb : (k == p.1) = false := by simpa using fun e => h (.inl e)
      rw [hb]
      exact ih fun hh => h (.inr hh)
end
abbrev kb (s : Sub) : Key × List UInt8 := (s.key, s.tx.l)
abbrev wb (p : Key × Wt) : Key × List UInt8 := (p.1, p.2.sub.tx.l)
theorem last_new {last : List Sub} {s : Sub} (h : ∀ x ∈ last, x.key ≠ s.key) : (last ++ [s]).map kb = mput (last.map kb) s.key s.tx.l := by
  unfold mput
  rw [if_neg, List.map_append]
  · rfl
  · rw [List.map_map]
    intro hh
    obtain ⟨x, hx, he⟩ := List.mem_map.1 hh
    exact h x hx he
theorem last_set {last : List Sub} {s x : Sub} {n : Nat} (hn : ((last.map kb).map (·.1)).Nodup) (hx : last[n]? = some x) (hk : x.key = s.key) : (last.set n s).map kb = mput (last.map kb) s.key s.tx.l := by
  have hmem : x ∈ last := List.mem_of_getElem? hx
  unfold mput
  rw [if_pos (by rw [List.map_map]; exact List.mem_map.2 ⟨x, hmem, hk⟩), List.map_map]
  apply List.ext_getElem?
  intro i
  rw [List.getElem?_map, List.getElem?_map]
  by_cases hi : n = i
  · subst hi
    have hlt : n < last.length := (List.getElem?_eq_some_iff.1 hx).1
    rw [List.getElem?_set_self hlt, hx]
    show some (kb s) = some (if x.key = s.key then (s.key, s.tx.l) else kb x)
    rw [if_pos hk]
  · rw [List.getElem?_set_ne hi]
    cases hy : last[i]? with
    | none => rfl
    | some y =>
      show some (kb y) = some (if y.key = s.key then (s.key, s.tx.l) else kb y)
      rw [if_neg]
      intro e
      rw [List.map_map] at hn
      have h1 : (last.map ((fun p : Key × List UInt8 => p.1) ∘ kb))[n]? = some s.key := by rw [List.getElem?_map, hx]; exact congrArg some hk
      have h2 : (last.map ((fun p : Key × List UInt8 => p.1) ∘ kb))[i]? = some s.key := by rw [List.getElem?_map, hy]; exact congrArg some e
      exact hi ((List.getElem?_inj (List.getElem?_eq_some_iff.1 h1).1 hn).1 (h1.trans h2.symm))
theorem look_none {L : List (Key × Wt)} {last : List Sub} {k : Key} (hr : L.map wb = last.map kb) (h : ∀ x ∈ last, x.key ≠ k) : L.lookup k = none := by
  have h1 := lookup_map (fun v : Wt => v.sub.tx.l) k L
  have h2 : (last.map kb).lookup k = none := lookup_out fun p hp => by
    obtain ⟨x, hx, rfl⟩ := List.mem_map.1 hp
    exact h x hx
  rw [show (L.map fun p => (p.1, p.2.sub.tx.l)) = last.map kb from hr, h2] at h1
  cases hl : L.lookup k with
  | none => rfl
  | some v => rw [hl] at h1; cases h1
theorem look_some {L : List (Key × Wt)} {last : List Sub} {k : Key} {n : Nat} {y : Sub} (hr : L.map wb = last.map kb) (hn : ((last.map kb).map (·.1)).Nodup) (hy : last[n]? = some y) (hk : y.key = k) : ∃ v, L.lookup k = some v ∧ v.sub.tx.l = y.tx.l := by
  have h1 := lookup_map (fun v : Wt => v.sub.tx.l) k L
  have h2 : (last.map kb).lookup k = some y.tx.l := lookup_in hn (hk ▸ List.mem_map_of_mem (f := kb) (List.mem_of_getElem? hy))
  rw [show (L.map fun p => (p.1, p.2.sub.tx.l)) = last.map kb from hr, h2] at h1
  cases hl : L.lookup k with
  | none => rw [hl] at h1; cases h1
  | some v =>
    rw [hl] at h1
    exact ⟨v, rfl, (Option.some.inj h1).symm⟩
theorem sendE_0 {L : List (Key × Wt)} {s : Sub} (h : sendE L s = 0) : 1 ≤ s.tx.l.length ∧ s.tx.l.length ≤ 64 := by
  unfold sendE at h
  split at h
  · cases h
  · omega
theorem put_rel {L : List (Key × Wt)} {A : List (Key × List UInt8)} {k : Key} {v : Wt} {t : List UInt8} (hr : L.map wb = A) (hv : v.sub.tx.l = t) : (mput L k v).map wb = mput A k t := by
  subst hr hv
  exact mput_map (fun v : Wt => v.sub.tx.l) L k v
end Go.Proofs.Ythcapeihhldpcaa
