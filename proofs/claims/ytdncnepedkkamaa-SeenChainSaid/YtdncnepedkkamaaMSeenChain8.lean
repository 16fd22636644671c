/- MSeenChain8: RAt, Eq, Keys, Idx. -/
import Derived.Test.YtdncnepedkkamaaMSeenChain7
import Derived.Test.YtdncnepedkkamaaMSeenChain6
import Derived.DeepKeys3
/- RAt: the document's blocks: where an id stands first, how often. No program in sight. -/
namespace Go.Proofs.Ytdncnepedkkamaa
set_option linter.unusedSimpArgs false
set_option linter.unusedVariables false
open Go.RowKit
set_option maxRecDepth 100000
set_option maxHeartbeats 2000000
structure RAt (B : Nat) (w : World) (L : Sl Blk) : Prop where
  row : SlAt B w Blk.c 65 L
  tx : ∀ b ∈ L.l, SlAt B w Id.c 32 b.tx
theorem RAt.keep {S : Nat → Prop} {B : Nat} {w w' : World} {L : Sl Blk} (h : RAt B w L) (hc : Chg S w w') (hB : ∀ b, S b → B ≤ b) : RAt B w' L := ⟨h.row.keep hc hB, fun b hb => (h.tx b hb).keep hc hB⟩
def rFirst : List Blk → Id → Option Nat
  | [], _ => none
  | b :: L, x => if x ∈ b.tx.l then some 0 else (rFirst L x).map (· + 1)
theorem rFirst_at {x : Id} : ∀ {L : List Blk} {i : Nat} {b : Blk}, L[i]? = some b → x ∈ b.tx.l → (∀ c ∈ L.take i, x ∉ c.tx.l) → rFirst L x = some i
  | [], i, b, h, _, _ => by simp at h
  | c :: L, 0, b, h, hx, _ => by
    simp at h
    subst h
    exact if_pos hx
  | c :: L, i + 1, b, h, hx, hn => by
    have h1 := rFirst_at (L := L) (i := i) (by simpa using h) hx fun d hd => hn d (by simp [hd])
    show (if x ∈ c.tx.l then some 0 else (rFirst L x).map (· + 1)) = _
    rw [if_neg (hn c (by simp)), h1]
    rfl
theorem rFirst_no {x : Id} : ∀ {L : List Blk}, (∀ c ∈ L, x ∉ c.tx.l) → rFirst L x = none
  | [], _ => rfl
  | c :: L, hn => by
    show (if x ∈ c.tx.l then some 0 else (rFirst L x).map (· + 1)) = _
    rw [if_neg (hn c (by simp)), rFirst_no fun d hd => hn d (by simp [hd])]
    rfl
/-- in how many blocks -/
def rTimes (L : List Blk) (x : Id) : Nat := (L.filter fun b => decide (x ∈ b.tx.l)).length
theorem rTimes_step {L : List Blk} {i : Nat} {b : Blk} (h : L[i]? = some b) (x : Id) : rTimes (L.take (i + 1)) x = rTimes (L.take i) x + if x ∈ b.tx.l then 1 else 0 := by
  unfold rTimes
  rw [List.take_add_one, h, List.filter_append, List.length_append]
  congr 1
  by_cases hx : x ∈ b.tx.l
  · simp [hx]
  · simp [hx]
end Go.Proofs.Ytdncnepedkkamaa
/- Eq: equality of the plain types. No condition. -/
namespace Go.Proofs.Ytdncnepedkkamaa
set_option linter.unusedSimpArgs false
set_option linter.unusedVariables false
open Go.RowKit
set_option maxRecDepth 100000
set_option maxHeartbeats 2000000
end Go.Proofs.Ytdncnepedkkamaa
/- Keys: maps whose keys are arrays of bytes, or small structs. No condition. -/
namespace Go.Proofs.Ytdncnepedkkamaa
set_option linter.unusedSimpArgs false
set_option linter.unusedVariables false
open Go.RowKit
set_option maxRecDepth 100000
set_option maxHeartbeats 2000000
/-- what an entry is, by the keys' own equality -/
abbrev mlk {κ ν : Type} [DecidableEq κ] (l : List (κ × ν)) (k : κ) : Option ν := l.lookup k
theorem lookup_none {κ ν : Type} [DecidableEq κ] : ∀ {l : List (κ × ν)} {x : κ}, x ∉ l.map (·.1) → l.lookup x = none
  | [], _, _ => rfl
  | p :: l, x, h => by
    have h1 : ¬ x = p.1 := fun e => h (by simp [e])
    have h2 := lookup_none (l := l) (x := x) fun hh => h (List.mem_cons_of_mem _ hh)
    have hb : (x == p.1) = false := by simpa using h1
    rw [List.lookup_cons, hb]
    exact h2
theorem lookup_mapput {κ ν : Type} [DecidableEq κ] (k : κ) (v : ν) (x : κ) : ∀ l : List (κ × ν), (l.map fun p => if p.1 = k then (k, v) else p).lookup x = if x = k then (if k ∈ l.map (·.1) then some v else none) else l.lookup x
  | [] => by simp
  | p :: l => by
    have ih := lookup_mapput k v x l
    rw [List.map_cons, List.lookup_cons, List.lookup_cons]
    by_cases h1 : p.1 = k
    · rw [if_pos h1]
      by_cases h2 : x = k
      · simp [h1, h2]
      · have h3 : ¬ x = p.1 := fun e => h2 (e.trans h1)
        have hb : (x == p.1) = false := by simpa using h3
        have hb2 : (x == k) = false := by simpa using h2
        rw [hb, hb2, ih, if_neg h2, if_neg h2]
    · rw [if_neg h1, ih]
      by_cases h2 : x = k
      · subst h2
        have h3 : ¬ x = p.1 := fun e => h1 e.symm
        have hb : (x == p.1) = false := by simpa using h3
        rw [hb, if_pos rfl, if_pos rfl]
        have hi : x ∈ (p :: l).map (·.1) ↔ x ∈ l.map (·.1) := by simp [h3]
        by_cases hm : x ∈ l.map (·.1)
        · rw [if_pos (hi.2 hm)]
          simp only
          rw [if_pos hm]
        · rw [if_neg fun hh => hm (hi.1 hh)]
          simp only
          rw [if_neg hm]
      · rw [if_neg h2, if_neg h2]
theorem lookup_mput {κ ν : Type} [DecidableEq κ] (l : List (κ × ν)) (k : κ) (v : ν) (x : κ) : (mput l k v).lookup x = if x = k then some v else l.lookup x := by
  unfold mput
  split
  · rename_i h
    rw [lookup_mapput, if_pos h]
  · rename_i h
    rw [List.lookup_append]
    by_cases h2 : x = k
    · subst h2
      rw [lookup_none h]
      simp
    · have : ([(k, v)] : List (κ × ν)).lookup x = none := by simp [h2]
      rw [this]
      simp [h2]
theorem mapM_has {α β : Type} {f : α → Option β} : ∀ (l : List α), (∀ x ∈ l, ∃ y, f x = some y) → ∃ r, l.mapM f = some r
  | [], _ => ⟨[], rfl⟩
  | x :: l, h => by
    obtain ⟨y, hy⟩ := h x (by simp)
    obtain ⟨r, hr⟩ := mapM_has l fun z hz => h z (by simp [hz])
    exact ⟨y :: r, by simp [List.mapM_cons, hy, hr]⟩
theorem keyLits_u8s {P : Program} {t e : TypeId} {n d : Nat} (ht : P.underlying t = some (.array n e)) (he : P.underlying e = some (.int .u8)) (hc : P.cellsOf e = 1) (hn : P.cellsOf t = n) (l : List UInt8) (hl : l.length = n) : ∃ L, P.keyLits (d + 2) t (l.map u8) = some L := by
  have h1 : ∃ r, ((List.range n).mapM fun i => P.keyLits (d + 1) e (((l.map u8).drop (i * P.cellsOf e)).take (P.cellsOf e))) = some r := mapM_has _ fun i hi => by
    have hi' : i < l.length := by rw [hl]; exact List.mem_range.1 hi
    have h2 : ((l.map u8).drop (i * P.cellsOf e)).take (P.cellsOf e) = [u8 l[i]] := by
      rw [hc, Nat.mul_one, List.drop_eq_getElem_cons (by simpa using hi')]
      simp
    have hw : (Lit.int .u8 (l[i].toNat : Int)).wf = true := by
      have := l[i].toNat_lt
      simp [Lit.wf, IntKind.min, IntKind.max, IntKind.signed, IntKind.bits]
      omega
    rw [h2]
    exact ⟨[.int .u8 l[i].toNat], by simp [Program.keyLits, he, hw]⟩
  obtain ⟨r, hr⟩ := h1
  refine ⟨r.flatten, ?_⟩
  have hlen : (l.map u8).length = P.cellsOf t := by simp [hl, hn]
  unfold Program.keyLits
  rw [ht]
  cases hcs : l.map u8 with
  | nil => rw [hcs] at hr hlen; simp only [hlen, if_true, hr, Option.map_some]
  | cons c cs => rw [hcs] at hr hlen; simp only [hlen, if_true, hr, Option.map_some]
theorem id_law : Maps.Keyed Try.prog 62 := Maps.Keyed.of_law (deep_law (m := 3) (by omega) (by kernel_rfl) (by kernel_rfl) (by kernel_rfl))
theorem Id.inj {x y : Id} (h : x.v = y.v) : x = y := by
  have h1 : x.c.toArray = y.c.toArray := by injection h
  rw [← Id.cells, ← Id.cells] at h1
  have h2 : x.toList.map Extern.Stop.cell = y.toList.map Extern.Stop.cell := by simpa using h1
  have h3 : x.toList = y.toList := by
    have hinj : ∀ a b : UInt8, Extern.Stop.cell a = Extern.Stop.cell b → a = b := fun a b hh => by
      simp [Extern.Stop.cell] at hh
      exact UInt8.toNat_inj.1 (by omega)
    exact List.map_inj_right hinj |>.1 h2
  exact Vector.toList_inj.1 h3
theorem idK : KEnc Try.prog 62 Id.v where
  law := id_law
  reads x := by
    obtain ⟨L, hL⟩ := keyLits_u8s (P := Try.prog) (t := 62) (e := 5) (n := 32) (d := Try.prog.types.size - 1) (by kernel_rfl) Try.underlying5 (by kernel_rfl) (by kernel_rfl) x.toList (by simp)
    have h1 : x.v.cells.toList = x.toList.map u8 := by
      have := congrArg Array.toList (Id.cells x)
      rw [List.toList_toArray, List.toList_toArray] at this
      exact this.symm
    have h2 : Try.prog.types.size - 1 + 2 = Try.prog.types.size + 1 := by kernel_rfl
    rw [h2] at hL
    refine ⟨.string (keyBytes L), ?_⟩
    have ht : Try.prog.underlying 62 = some (.array 32 5) := by kernel_rfl
    have hk : (Try.prog.keyType 62 && x.v.formed Try.prog 62) = true := by kernel_rfl
    unfold keyOf
    rw [ht]
    simp only
    rw [if_pos hk, h1, hL]
    rfl
  inj h := Id.inj h
end Go.Proofs.Ytdncnepedkkamaa
/- Idx: the first place of an id; few ids. -/
namespace Go.Proofs.Ytdncnepedkkamaa
set_option linter.unusedSimpArgs false
set_option linter.unusedVariables false
open Go.RowKit
set_option maxRecDepth 100000
set_option maxHeartbeats 2000000
/-- the first place at which something holds, or -1 -/
def idxI {α : Type} (p : α → Bool) (l : List α) : Int := match l.findIdx? p with | some i => i | none => -1
theorem idxI_hit {α : Type} {p : α → Bool} : ∀ {l : List α} {i : Nat} {x : α}, l[i]? = some x → p x = true → (∀ y ∈ l.take i, p y = false) → idxI p l = i
  | [], _, _, h, _, _ => by simp at h
  | y :: l, 0, x, h, hp, _ => by simp at h; subst h; simp [idxI, List.findIdx?_cons, hp]
  | y :: l, i + 1, x, h, hp, ha => by
    have ih := idxI_hit (l := l) (i := i) (by simpa using h) hp fun z hz => ha z (by simp [hz])
    have hy := ha y (by simp)
    unfold idxI at ih ⊢
    rw [List.findIdx?_cons, hy]
    cases hf : l.findIdx? p with
    | none => rw [hf] at ih; simp at ih
    | some j => rw [hf] at ih; simp at ih ⊢; omega
theorem idxI_miss {α : Type} {p : α → Bool} {l : List α} (h : ∀ y ∈ l, p y = false) : idxI p l = -1 := by
  have : l.findIdx? p = none := by simpa using h
  simp [idxI, this]
theorem index_any {B : Nat} {w0 : World} {s : Sl Id} (h : SlAt B w0 Id.c 32 s) (v : Id) : Calls Try.prog 105 #[s.v, v.v] w0 fun e w' => e = .returned (i64 (idxI (fun y => decide (y = v)) s.l)) ∧ Chg N0 w0 w' := by
  have hp := Hp.start (S := N0) w0
  have hB : ∀ b, N0 b → B ≤ b := fun _ hh => hh.elim
  have hmax : s.l.length ≤ 9223372036854775807 := by have := h.le; have := h.max; simp only [maxLen] at this; omega
  have u1 := Try.underlying63
  refine calls_x (args := [_, _]) tabOk Try.func105 Try.ntmps105 Try.results105 rfl (Nat.le_of_ble_eq_true rfl) ?_
  ((conv => whnf); repeat' ((first | ((with_reducible refine br_id ?_); first | (with_reducible (first | refine br_t ?_ | refine br_f ?_ | refine br_not ?_)) | ((with_reducible (first | refine br_dec (fun hx => ?_) (fun hx => ?_) | refine br_eq (fun hx => ?_) (fun hx => ?_) | refine br_ne (fun hx => ?_) (fun hx => ?_) | refine br_s (fun hx => ?_) (fun hx => ?_))) <;> (try (exfalso; first | omega | exact absurd hx (by assumption) | exact absurd (by assumption) hx)))) | ((with_reducible refine ar_id ?_); first | (refine ar_i64 (by omega) ?_) | (refine ar_u32 (by omega) ?_) | (refine ar_u64 (by omega) ?_) | (refine ar_u8 (by omega) ?_)) | ((with_reducible refine cn_id ?_); first | (refine cn rfl ?_) | (refine cn (by assumption) ?_) | (refine cn (by omega) ?_) | (refine cn (Chg.refl _ _) ?_)) | ((with_reducible refine ld_id ?_); first | (apply ld_hs hp; (focus ((repeat (first | exact Has.here | apply Has.there)); done)); exact rfl) | (refine ld_of (by assumption) ?_)) | ((with_reducible refine ldn_id ?_); first | (apply lda_hs hp; (focus ((repeat (first | exact Has.here | apply Has.there)); done)); exact rfl) | (apply ldn_hs hp; (focus ((repeat (first | exact Has.here | apply Has.there)); done)); exact rfl; exact rfl)) | ((with_reducible refine al_id ?_); first | (refine al_cel hp ?_; clear hp; intro bb w hp)) | ((with_reducible refine st_id ?_); first | (apply sta_hs hp; (focus ((repeat (first | exact Has.here | apply Has.there)); done)); exact rfl; exact rfl; clear hp; intro w hp; (try dsimp only [List.set] at hp)) | (apply st_hs hp; (focus ((repeat (first | exact Has.here | apply Has.there)); done)); exact rfl; exact rfl; clear hp; intro w hp; (try dsimp only [List.set] at hp))) | ((with_reducible refine gen_id ?_); first | (apply gen_build; exact rfl; exact rfl) | (apply gen_len; exact rfl; exact rfl; assumption) | (apply gen_min; exact rfl; exact rfl; exact rfl) | (apply gen_max; exact rfl; exact rfl; exact rfl) | (apply gen_ix; exact rfl; exact rfl; exact rfl; exact rfl; omega) | (apply gen_ixa; exact rfl; exact rfl; exact rfl; exact rfl; omega)) | ((with_reducible refine dr_id ?_); first | (refine dr_auto tabOk (by kernel_rfl) (by decide +kernel) ?_; (try replace hp := hp.drew)) | (refine dr_autog tabOk (by kernel_rfl) (by decide +kernel) ?_; (try replace hp := hp.drew)) | (refine dr_autot tabOk (by kernel_rfl) (by decide +kernel) ?_; (try replace hp := hp.drew))) | ((with_reducible refine fk_id ?_); first | (refine fk_mk ?_ ?_)) | ((with_reducible refine rd_id ?_); first | (apply rd_len; exact rfl; exact rfl; assumption) | (apply rd_ix; exact rfl; exact rfl; exact rfl; exact rfl; omega))) <;> (conv => whnf)))
  refine lp_inv (α := Nat) (fun a => [(0, s.v), (3, ptr bb), (7, errno s.l.length), (8, errno a)]) (fun a w => a ≤ s.l.length ∧ (∀ y ∈ s.l.take a, (fun y => decide (y = v)) y = false) ∧ Hp N0 w0 w [cel bb 62 v.c.toArray]) (fun a => s.l.length - a) 0 (by (repeat' (first | exact trivial | (refine ⟨rfl, ?_⟩)))) ⟨by omega, by simp, hp⟩ ?_
  clear hp
  rintro i e0 w ⟨hi, hno, hp⟩
  dsimp only at hi hno hp ⊢
  rcases Nat.lt_or_ge i s.l.length with hlt | hge
  · obtain ⟨b, o, x, hA, hb, hrow, hxx⟩ := h.has hlt
    ((conv => whnf); repeat' ((first | ((with_reducible refine br_id ?_); first | (with_reducible (first | refine br_t ?_ | refine br_f ?_ | refine br_not ?_)) | ((with_reducible (first | refine br_dec (fun hx => ?_) (fun hx => ?_) | refine br_eq (fun hx => ?_) (fun hx => ?_) | refine br_ne (fun hx => ?_) (fun hx => ?_) | refine br_s (fun hx => ?_) (fun hx => ?_))) <;> (try (exfalso; first | omega | exact absurd hx (by assumption) | exact absurd (by assumption) hx)))) | ((with_reducible refine ar_id ?_); first | (refine ar_i64 (by omega) ?_) | (refine ar_u32 (by omega) ?_) | (refine ar_u64 (by omega) ?_) | (refine ar_u8 (by omega) ?_)) | ((with_reducible refine cn_id ?_); first | (refine cn rfl ?_) | (refine cn (by assumption) ?_) | (refine cn (by omega) ?_) | (refine cn (Chg.refl _ _) ?_)) | ((with_reducible refine ld_id ?_); first | ((refine ld_row hp hB (by assumption) (by assumption) _ _ rfl (by assumption) (by rfl) ?_)) | ((refine ld_row0 hp hB (by assumption) (by assumption) _ rfl (by assumption) (by rfl) ?_)) | (apply ld_hs hp; (focus ((repeat (first | exact Has.here | apply Has.there)); done)); exact rfl) | (refine ld_of (by assumption) ?_)) | ((with_reducible refine ldn_id ?_); first | ((refine ldn_row hp hB (by assumption) (by assumption) _ _ rfl (by assumption) (by rfl) (by rfl) ?_)) | ((refine ldn_rowx hp hB (by assumption) (by assumption) _ rfl (by assumption) rfl ?_)) | ((refine ldn_row0 hp hB (by assumption) (by assumption) _ rfl (by assumption) (by rfl) (by rfl) ?_)) | (apply lda_hs hp; (focus ((repeat (first | exact Has.here | apply Has.there)); done)); exact rfl) | (apply ldn_hs hp; (focus ((repeat (first | exact Has.here | apply Has.there)); done)); exact rfl; exact rfl)) | ((with_reducible refine al_id ?_); first | (refine al_cel hp ?_; clear hp; intro bb w hp)) | ((with_reducible refine st_id ?_); first | (apply sta_hs hp; (focus ((repeat (first | exact Has.here | apply Has.there)); done)); exact rfl; exact rfl; clear hp; intro w hp; (try dsimp only [List.set] at hp)) | (apply st_hs hp; (focus ((repeat (first | exact Has.here | apply Has.there)); done)); exact rfl; exact rfl; clear hp; intro w hp; (try dsimp only [List.set] at hp))) | ((with_reducible refine gen_id ?_); first | ((refine gen_ixs rfl rfl (by assumption) rfl rfl (by omega) ?_)) | (apply gen_build; exact rfl; exact rfl) | (apply gen_len; exact rfl; exact rfl; assumption) | (apply gen_min; exact rfl; exact rfl; exact rfl) | (apply gen_max; exact rfl; exact rfl; exact rfl) | (apply gen_ix; exact rfl; exact rfl; exact rfl; exact rfl; omega) | (apply gen_ixa; exact rfl; exact rfl; exact rfl; exact rfl; omega)) | ((with_reducible refine dr_id ?_); first | (refine dr_auto tabOk (by kernel_rfl) (by decide +kernel) ?_; (try replace hp := hp.drew)) | (refine dr_autog tabOk (by kernel_rfl) (by decide +kernel) ?_; (try replace hp := hp.drew)) | (refine dr_autot tabOk (by kernel_rfl) (by decide +kernel) ?_; (try replace hp := hp.drew))) | ((with_reducible refine fk_id ?_); first | (refine fk_mk ?_ ?_)) | ((with_reducible refine rd_id ?_); first | ((refine rd_ixs rfl rfl (by assumption) rfl rfl (by omega) ?_)) | ((refine rd_eqa rfl rfl rfl (eq_id v x) (by kernel_rfl) (.inl rfl) ?_)) | (apply rd_len; exact rfl; exact rfl; assumption) | (apply rd_ix; exact rfl; exact rfl; exact rfl; exact rfl; omega))) <;> (conv => whnf)))
    · refine ps_val (v' := i64 (i : Int)) rfl ⟨?_, hp.chg⟩
      rw [idxI_hit (p := (fun y => decide (y = v))) hxx (by simpa [eq_comm] using hx) hno]
    · refine lp_next (i + 1) ?_ (by (repeat' (first | exact trivial | (refine ⟨rfl, ?_⟩)))) ⟨by omega, ?_, hp⟩
      · show s.l.length - (i + 1) < s.l.length - i; omega
      · intro y hy
        rw [List.take_add_one, hxx] at hy
        rcases List.mem_append.1 hy with hy | hy
        · exact hno y hy
        · simp at hy
          subst hy
          simpa [eq_comm] using hx
  · ((conv => whnf); repeat' ((first | ((with_reducible refine br_id ?_); first | (with_reducible (first | refine br_t ?_ | refine br_f ?_ | refine br_not ?_)) | ((with_reducible (first | refine br_dec (fun hx => ?_) (fun hx => ?_) | refine br_eq (fun hx => ?_) (fun hx => ?_) | refine br_ne (fun hx => ?_) (fun hx => ?_) | refine br_s (fun hx => ?_) (fun hx => ?_))) <;> (try (exfalso; first | omega | exact absurd hx (by assumption) | exact absurd (by assumption) hx)))) | ((with_reducible refine ar_id ?_); first | (refine ar_i64 (by omega) ?_) | (refine ar_u32 (by omega) ?_) | (refine ar_u64 (by omega) ?_) | (refine ar_u8 (by omega) ?_)) | ((with_reducible refine cn_id ?_); first | (refine cn rfl ?_) | (refine cn (by assumption) ?_) | (refine cn (by omega) ?_) | (refine cn (Chg.refl _ _) ?_)) | ((with_reducible refine ld_id ?_); first | (apply ld_hs hp; (focus ((repeat (first | exact Has.here | apply Has.there)); done)); exact rfl) | (refine ld_of (by assumption) ?_)) | ((with_reducible refine ldn_id ?_); first | (apply lda_hs hp; (focus ((repeat (first | exact Has.here | apply Has.there)); done)); exact rfl) | (apply ldn_hs hp; (focus ((repeat (first | exact Has.here | apply Has.there)); done)); exact rfl; exact rfl)) | ((with_reducible refine al_id ?_); first | (refine al_cel hp ?_; clear hp; intro bb w hp)) | ((with_reducible refine st_id ?_); first | (apply sta_hs hp; (focus ((repeat (first | exact Has.here | apply Has.there)); done)); exact rfl; exact rfl; clear hp; intro w hp; (try dsimp only [List.set] at hp)) | (apply st_hs hp; (focus ((repeat (first | exact Has.here | apply Has.there)); done)); exact rfl; exact rfl; clear hp; intro w hp; (try dsimp only [List.set] at hp))) | ((with_reducible refine gen_id ?_); first | (apply gen_build; exact rfl; exact rfl) | (apply gen_len; exact rfl; exact rfl; assumption) | (apply gen_min; exact rfl; exact rfl; exact rfl) | (apply gen_max; exact rfl; exact rfl; exact rfl) | (apply gen_ix; exact rfl; exact rfl; exact rfl; exact rfl; omega) | (apply gen_ixa; exact rfl; exact rfl; exact rfl; exact rfl; omega)) | ((with_reducible refine dr_id ?_); first | (refine dr_auto tabOk (by kernel_rfl) (by decide +kernel) ?_; (try replace hp := hp.drew)) | (refine dr_autog tabOk (by kernel_rfl) (by decide +kernel) ?_; (try replace hp := hp.drew)) | (refine dr_autot tabOk (by kernel_rfl) (by decide +kernel) ?_; (try replace hp := hp.drew))) | ((with_reducible refine fk_id ?_); first | (refine fk_mk ?_ ?_)) | ((with_reducible refine rd_id ?_); first | (apply rd_len; exact rfl; exact rfl; assumption) | (apply rd_ix; exact rfl; exact rfl; exact rfl; exact rfl; omega))) <;> (conv => whnf)))
    refine ps_val (v' := i64 (-1)) rfl ⟨?_, hp.chg⟩
    rw [idxI_miss fun y hy => hno y (by rw [List.take_of_length_le hge]; exact hy)]
theorem fewBlk_any (w0 : World) (b : Blk) (hm : b.tx.l.length ≤ 9223372036854775807) : Calls Try.prog 38 #[b.v] w0 fun e w' => e = .returned (.bool (decide (b.tx.l.length ≤ 100))) ∧ Chg N0 w0 w' := by
  have hp := Hp.start (S := N0) w0
  have u1 := Try.underlying63
  refine calls_x (args := [_]) tabOk Try.func38 Try.ntmps38 Try.results38 rfl (Nat.le_of_ble_eq_true rfl) ?_
  ((conv => whnf); repeat' ((first | ((with_reducible refine br_id ?_); first | (with_reducible (first | refine br_t ?_ | refine br_f ?_ | refine br_not ?_)) | ((with_reducible (first | refine br_dec (fun hx => ?_) (fun hx => ?_) | refine br_eq (fun hx => ?_) (fun hx => ?_) | refine br_ne (fun hx => ?_) (fun hx => ?_) | refine br_s (fun hx => ?_) (fun hx => ?_))) <;> (try (exfalso; first | omega | exact absurd hx (by assumption) | exact absurd (by assumption) hx)))) | ((with_reducible refine ar_id ?_); first | (refine ar_i64 (by omega) ?_) | (refine ar_u32 (by omega) ?_) | (refine ar_u64 (by omega) ?_) | (refine ar_u8 (by omega) ?_)) | ((with_reducible refine cn_id ?_); first | (refine cn rfl ?_) | (refine cn (by assumption) ?_) | (refine cn (by omega) ?_) | (refine cn (Chg.refl _ _) ?_)) | ((with_reducible refine ld_id ?_); first | (apply ld_hs hp; (focus ((repeat (first | exact Has.here | apply Has.there)); done)); exact rfl) | (refine ld_of (by assumption) ?_)) | ((with_reducible refine ldn_id ?_); first | (apply lda_hs hp; (focus ((repeat (first | exact Has.here | apply Has.there)); done)); exact rfl) | (apply ldn_hs hp; (focus ((repeat (first | exact Has.here | apply Has.there)); done)); exact rfl; exact rfl)) | ((with_reducible refine al_id ?_); first | (refine al_cel hp ?_; clear hp; intro bb w hp)) | ((with_reducible refine st_id ?_); first | (apply sta_hs hp; (focus ((repeat (first | exact Has.here | apply Has.there)); done)); exact rfl; exact rfl; clear hp; intro w hp; (try dsimp only [List.set] at hp)) | (apply st_hs hp; (focus ((repeat (first | exact Has.here | apply Has.there)); done)); exact rfl; exact rfl; clear hp; intro w hp; (try dsimp only [List.set] at hp))) | ((with_reducible refine gen_id ?_); first | (apply gen_build; exact rfl; exact rfl) | (apply gen_len; exact rfl; exact rfl; assumption) | (apply gen_min; exact rfl; exact rfl; exact rfl) | (apply gen_max; exact rfl; exact rfl; exact rfl) | (apply gen_ix; exact rfl; exact rfl; exact rfl; exact rfl; omega) | (apply gen_ixa; exact rfl; exact rfl; exact rfl; exact rfl; omega)) | ((with_reducible refine dr_id ?_); first | (refine dr_auto tabOk (by kernel_rfl) (by decide +kernel) ?_; (try replace hp := hp.drew)) | (refine dr_autog tabOk (by kernel_rfl) (by decide +kernel) ?_; (try replace hp := hp.drew)) | (refine dr_autot tabOk (by kernel_rfl) (by decide +kernel) ?_; (try replace hp := hp.drew))) | ((with_reducible refine fk_id ?_); first | (refine fk_mk ?_ ?_)) | ((with_reducible refine rd_id ?_); first | (apply rd_len; exact rfl; exact rfl; assumption) | (apply rd_ix; exact rfl; exact rfl; exact rfl; exact rfl; omega))) <;> (conv => whnf)))
  refine ps_val (v' := .bool (decide ((b.tx.l.length : Int) ≤ 100))) rfl ⟨?_, hp.chg⟩
  rw [decide_eq_decide.2 (show (b.tx.l.length : Int) ≤ 100 ↔ b.tx.l.length ≤ 100 by omega)]
end Go.Proofs.Ytdncnepedkkamaa
