/- MSessionDoes21: Tab23b, Sub, Out, See. -/
import Derived.Test.YtdncnepedkkamaaMSessionDoessTab23
import Derived.Test.YtdncnepedkkamaaMSessionDoessTailS
import Derived.Test.YtdncnepedkkamaaMSessionDoes12
import Derived.Test.YtdncnepedkkamaaMSessionDoes8
import Derived.Test.YtdncnepedkkamaaMSessionDoessTailU
/- Tab23b: package session's table beside the document's list: End, Clone, List, Before. Of tables that hold what the list does. -/
namespace Go.Proofs.Ytdncnepedkkamaa
set_option linter.unusedSimpArgs false
set_option linter.unusedVariables false
open Go.RowKit
set_option maxRecDepth 100000
set_option maxHeartbeats 4000000
abbrev Sess.c (s : Sess) : List Value := [u32 s.id, u32 s.quota, u32 s.used, u32 s.exp]
theorem el_ses : ElT Try.prog 26 29 4 16 := elt_of (z := Sess.z.v) Try.underlying26 (by kernel_rfl) rfl (by omega)
theorem ses_one {l : List Sess} : ∀ x ∈ l, ∀ u ∈ Sess.c x, u.oneCell' = true := fun x _ u hu => by
  simp only [Sess.c, List.mem_cons, List.not_mem_nil, or_false] at hu
  rcases hu with rfl | rfl | rfl | rfl <;> rfl
def byId (W : List Sess) (id : UInt32) : Option Sess := W.find? fun s => decide (s.id = id)
/-- a table that holds what the document's list does -/
structure TbI (l : List (UInt32 × Sess)) (W : List Sess) : Prop where
  ord : W.Pairwise fun x y => x.id.toNat < y.id.toNat
  per : (l.map (·.2)).Perm W
  key : ∀ p ∈ l, p.1 = p.2.id
  used : ∀ s ∈ W, s.used.toNat ≤ s.quota.toNat
theorem byId_mem {W : List Sess} {id : UInt32} {s : Sess} (h : byId W id = some s) : s ∈ W ∧ s.id = id := ⟨List.mem_of_find?_eq_some h, by simpa using List.find?_some h⟩
theorem byId_none {W : List Sess} {id : UInt32} (h : byId W id = none) : ∀ s ∈ W, s.id ≠ id := fun s hs => by
  have := List.find?_eq_none.1 h s hs
  simpa using this
theorem byId_of {W : List Sess} (ho : W.Pairwise fun x y => x.id.toNat < y.id.toNat) {s : Sess} (hs : s ∈ W) : byId W s.id = some s := by
  cases hb : byId W s.id with
  | none => exact absurd rfl (byId_none hb s hs)
  | some t =>
    obtain ⟨h1, h2⟩ := byId_mem hb
    have hnd : W.Pairwise fun x y => x.id ≠ y.id := ho.imp fun h e => by rw [e] at h; exact Nat.lt_irrefl _ h
    by_cases he : t = s
    · rw [he]
    · exfalso
      obtain ⟨i, hi, rfl⟩ := List.getElem_of_mem h1
      obtain ⟨j, hj, rfl⟩ := List.getElem_of_mem hs
      rcases Nat.lt_trichotomy i j with h3 | h3 | h3
      · exact List.pairwise_iff_getElem.1 hnd i j hi hj h3 h2
      · subst h3; exact he rfl
      · exact List.pairwise_iff_getElem.1 hnd j i hj hi h3 h2.symm
theorem lk_mem {κ ν : Type} [DecidableEq κ] {k : κ} {v : ν} : ∀ {l : List (κ × ν)}, l.lookup k = some v → (k, v) ∈ l
  | [], h => by simp at h
  | p :: l, h => by
    rw [List.lookup_cons] at h
    split at h
    · rename_i he
      have h1 : k = p.1 := by simpa using he
      cases h
      rw [h1]
      exact List.mem_cons_self ..
    · exact List.mem_cons_of_mem _ (lk_mem h)
theorem lk_none {κ ν : Type} [DecidableEq κ] {k : κ} : ∀ {l : List (κ × ν)}, l.lookup k = none → ∀ p ∈ l, p.1 ≠ k
  | [], _, p, hp => by cases hp
  | q :: l, h, p, hp => by
    rw [List.lookup_cons] at h
    split at h
    · cases h
    · rename_i he
      rcases List.mem_cons.1 hp with rfl | hp
      · intro e; simp [e] at he
      · exact lk_none h p hp
section
variable {l : List (UInt32 × Sess)} {W : List Sess}
theorem TbI.len (h : TbI l W) : l.length = W.length := by have := h.per.length_eq; rwa [List.length_map] at this
theorem TbI.look (h : TbI l W) (id : UInt32) : l.lookup id = byId W id := by
  cases hl : l.lookup id with
  | some s =>
    have h1 := lk_mem hl
    have h2 : id = s.id := h.key _ h1
    have h3 : s ∈ W := h.per.mem_iff.1 (List.mem_map_of_mem (f := (·.2)) h1)
    rw [h2, byId_of h.ord h3]
  | none =>
    cases hb : byId W id with
    | none => rfl
    | some s =>
      obtain ⟨h1, h2⟩ := byId_mem hb
      obtain ⟨p, hp, rfl⟩ := List.mem_map.1 (h.per.mem_iff.2 h1)
      exact absurd ((h.key p hp).trans h2) (lk_none hl p hp)
theorem TbI.keys (h : TbI l W) : (l.map (·.1)).Perm (W.map (·.id)) := by
  have h1 : l.map (·.1) = (l.map (·.2)).map (·.id) := by
    rw [List.map_map]
    exact List.map_congr_left fun p hp => h.key p hp
  rw [h1]
  exact h.per.map _
theorem TbI.nodup (h : TbI l W) : (l.map (·.1)).Nodup := by
  refine h.keys.nodup_iff.2 ?_
  rw [List.nodup_iff_pairwise_ne, List.pairwise_map]
  exact h.ord.imp fun h e => by rw [e] at h; exact Nat.lt_irrefl _ h
theorem TbI.picked (h : TbI l W) (q : Sess → Bool) {r : List UInt32} (hp : r.Perm ((l.filter fun p => q p.2).map (·.1))) (hs : r.Pairwise fun x y => x.toNat ≤ y.toNat) : r = (W.filter q).map (·.id) := by
  have h1 : ((l.filter fun p => q p.2).map (·.1)).Perm ((W.filter q).map (·.id)) := by
    have h2 : (l.filter fun p => q p.2).map (·.1) = ((l.map (·.2)).filter q).map (·.id) := by
      rw [List.filter_map, List.map_map]
      exact List.map_congr_left fun p hp => h.key p (List.mem_filter.1 hp).1
    rw [h2]
    exact (h.per.filter q).map _
  refine (hp.trans h1).eq_of_pairwise (fun a b _ _ h3 h4 => UInt32.toNat_inj.1 (Nat.le_antisymm h3 h4)) hs ?_
  rw [List.pairwise_map]
  exact (h.ord.filter _).imp fun h => Nat.le_of_lt h
theorem TbI.end_ (h : TbI l W) (id : UInt32) : TbI (mdel l id) (W.filter fun s => decide (s.id ≠ id)) := by
  refine ⟨h.ord.filter _, ?_, fun p hp => h.key p (List.mem_filter.1 hp).1, fun s hs => h.used s (List.mem_filter.1 hs).1⟩
  have h2 : (mdel l id).map (·.2) = (l.map (·.2)).filter fun s => decide (s.id ≠ id) := by
    unfold mdel
    rw [List.filter_map]
    congr 1
    refine List.filter_congr fun p hp => ?_
    show decide (p.1 ≠ id) = decide (p.2.id ≠ id)
    rw [h.key p hp]
  rw [h2]
  exact h.per.filter _
end
end Go.Proofs.Ytdncnepedkkamaa
/- Sub: what is left of a row; slices outside what is changed. No condition. -/
namespace Go.Proofs.Ytdncnepedkkamaa
set_option linter.unusedSimpArgs false
set_option linter.unusedVariables false
open Go.RowKit
section
variable {α : Type} {B : Nat} {S : Nat → Prop} {w w' : World} {enc : α → List Value} {sz lo : Nat} {R s : Sl α}
theorem SlAt.keepS (h : SlAt B w enc sz s) (hc : Chg S w w') (hn : s.l ≠ [] → ∀ b o, s.A = some ⟨b, o, none⟩ → ¬ S b) : SlAt B w' enc sz s :=
  ⟨h.le, h.max, h.nil, fun hne => by
    obtain ⟨b, o, h1, h2, h3⟩ := h.row hne
    exact ⟨b, o, h1, h2, h3.keep hc (hn hne b o h1)⟩⟩
/-- what is left of a row behind so many things -/
structure Part (R s : Sl α) (sz lo : Nat) : Prop where
  l : s.l = R.l.drop lo
  c : s.c = R.c - lo
  nil : s.A = none → s.c = 0
  at_ : s.l ≠ [] → ∃ b o, R.A = some ⟨b, o, none⟩ ∧ s.A = some ⟨b, o + lo * sz, none⟩
theorem Part.start (h : SlAt B w enc sz R) : Part R R sz 0 := ⟨rfl, rfl, h.nil, fun hn => by
  obtain ⟨b, o, hA, _⟩ := h.row hn
  exact ⟨b, o, hA, by rw [hA, Nat.zero_mul, Nat.add_zero]⟩⟩
theorem Part.slat (h : Part R s sz lo) (hR : SlAt B w enc sz R) : SlAt B w enc sz s := by
  have hle := hR.le
  have hmax := hR.max
  refine ⟨by rw [h.l, h.c, List.length_drop]; omega, by rw [h.c]; omega, h.nil, fun hn => ?_⟩
  obtain ⟨b, o, h1, h2⟩ := h.at_ hn
  have hRn : R.l ≠ [] := fun e => hn (by rw [h.l, e, List.drop_nil])
  obtain ⟨b', o', h3, h4, h5⟩ := hR.row hRn
  rw [h1] at h3
  cases h3
  refine ⟨b, o + lo * sz, h2, h4, fun i x hi j v hj => ?_⟩
  rw [h.l, List.getElem?_drop] at hi
  have := h5 (lo + i) x hi j v hj
  rwa [show o + lo * sz + i * sz + j = o + (lo + i) * sz + j from by rw [Nat.add_mul]; omega]
theorem Part.cut (h : Part R s sz lo) (hs : s.l.length ≤ s.c) {k : Nat} (hk : k ≤ s.l.length) : Part R (s.cut sz k s.l.length) sz (lo + k) := by
  refine ⟨?_, ?_, fun hA => ?_, fun hn => ?_⟩
  · show (s.l.take s.l.length).drop k = _
    rw [List.take_length, h.l, List.drop_drop]
  · show s.c - k = _
    rw [h.c]; omega
  · show s.c - k = 0
    by_cases hc : s.c = k
    · omega
    · simp only [Sl.cut, hc, if_false, Option.map_eq_none_iff] at hA
      have := h.nil hA
      omega
  · have hl : 0 < (s.cut sz k s.l.length).l.length := List.length_pos_iff.2 hn
    rw [Sl.cut_len (Nat.le_refl _)] at hl
    obtain ⟨b, o, h1, h2⟩ := h.at_ (List.length_pos_iff.1 (by omega))
    refine ⟨b, o, h1, ?_⟩
    simp only [Sl.cut]
    rw [if_neg (by omega), h2, Option.map_some, add_plain, Nat.add_assoc, Nat.add_mul]
end
section
variable {α : Type} {P : Program} {w : World} {ρ : Operand → Value} {o : Oper} {g : Value → Prop} {t e : TypeId} {sz bytes : Nat} {x : Operand}
theorem rd_cuth {hi : Operand} (hop : o.op = .slice t x none (some hi) none) (hE : ElT P t e sz bytes) (s : Sl α) (hx : ρ x = s.v) (hc : s.l.length ≤ s.c) {k : IntKind} {m : Int} (hh : ρ hi = .int k m) {h : Nat} (hm : m = h) (h2 : h ≤ s.l.length) (hk : g (s.cut sz 0 h).v) : Rd P ρ o w g := by
  subst hm
  obtain ⟨ht, i, z, hi', _, hs, _⟩ := hE
  exact ⟨_, fun w' _ => run_cut hop ht ⟨i, hi', hs⟩ s hx hc (l := 0) (h := h) rfl ⟨k, hh⟩ (Nat.zero_le _) h2, hk⟩
theorem rd_arr (hop : o.op = .slice t x none none none) {n : Nat} (ht : P.underlying t = some (.array n e)) {b ofs : Nat} (hx : ρ x = .pointer (some ⟨b, ofs, none⟩)) (he : (P.info? e).isSome = true) (l : List α) (hl : l.length = n) (hk : g (arrS b ofs l).v) : Rd P ρ o w g := by
  obtain ⟨i, hi⟩ := Option.isSome_iff_exists.1 he
  subst hl
  refine ⟨(arrS b ofs l).v, fun w' _ => ?_, hk⟩
  by_cases h0 : l.length = 0 <;> simp [execOp, hop, hx, Instr.sliceAt, Instr.sureAddr, run_underlying ht, Instr.sliceBounds, sizeOf, typeInfo, hi, arrS, add_plain, h0]
end
theorem u8_one {l : List UInt8} : ∀ x ∈ l, ∀ u ∈ u8L x, u.oneCell' = true := fun x _ u hu => by
  simp only [u8L, List.mem_singleton] at hu
  subst hu
  rfl
end Go.Proofs.Ytdncnepedkkamaa
/- Out: slices outside what is changed. No condition. -/
namespace Go.Proofs.Ytdncnepedkkamaa
set_option linter.unusedSimpArgs false
set_option linter.unusedVariables false
open Go.RowKit
set_option maxRecDepth 100000
set_option maxHeartbeats 2000000
theorem ld_rowat0 {α : Type} {w : World} {enc : α → List Value} {sz b o : Nat} {l : List α} (hr : RowAt w enc sz b o l) {a : Addr} {k : Value → Prop} (i : Nat) (ha : a = ⟨b, o + i * sz, none⟩) {x : α} (hi : l[i]? = some x) {v : Value} (hv : (enc x)[0]? = some v) (hk : k v) : Ld w a k := by
  subst ha
  exact ld_of (hr i x hi 0 v hv) hk
/-- a slice outside some blocks -/
structure SlOut {α : Type} (S : Nat → Prop) (B : Nat) (w : World) (enc : α → List Value) (sz : Nat) (s : Sl α) : Prop where
  at_ : SlAt B w enc sz s
  out : s.l ≠ [] → ∀ b o, s.A = some ⟨b, o, none⟩ → ¬ S b
theorem SlOut.keep {α : Type} {S : Nat → Prop} {B : Nat} {w w' : World} {enc : α → List Value} {sz : Nat} {s : Sl α} (h : SlOut S B w enc sz s) (hc : Chg S w w') : SlAt B w' enc sz s := h.at_.keepS hc h.out
theorem out_row {α : Type} {S : Nat → Prop} {w0 w : World} {rs : List Res} {r : Res} {e : TypeId} {sz : Nat} {enc : α → List Value} {s : Sl α} (h : Hp S w0 w (rowR e sz enc s :: rs)) (hr : r ∈ rs) : SlOut r.dom w.heap.size w enc sz s :=
  ⟨h.row (j := 0) rfl, fun _ k o hA => (List.pairwise_cons.1 h.sep).1 r hr k (rowR_dom.2 (by simp [Sl.v, Value.ownBlock, hA]))⟩
end Go.Proofs.Ytdncnepedkkamaa
/- See: rows that are only read, wherever they stand; several resources taken apart. No condition. -/
namespace Go.Proofs.Ytdncnepedkkamaa
set_option linter.unusedSimpArgs false
set_option linter.unusedVariables false
open Go.RowKit
section
variable {α : Type} {S : Nat → Prop} {w0 w w' : World} {rs rs' rs'' : List Res} {r r' : Res} {enc : α → List Value} {e : TypeId} {sz j : Nat} {s : Sl α}
/-- a row that is only read -/
def seeR {α : Type} (sz : Nat) (enc : α → List Value) (s : Sl α) : Res where
  dom b := s.v.ownBlock = some b
  ok w := SlAt w.heap.size w enc sz s ∧ ∀ b, s.v.ownBlock = some b → b < w.heap.size
  lt w h b hb := h.2 b hb
  loc w w' h hk := by
    have hlt : ∀ b, s.v.ownBlock = some b → b < w'.heap.size := fun b hb => by
      have h1 := h b hb
      have h2 := hk.2 b hb
      rw [Array.getElem?_eq_getElem h2] at h1
      exact heap_lt h1
    refine ⟨⟨hk.1.le, hk.1.max, hk.1.nil, fun hn => ?_⟩, hlt⟩
    obtain ⟨b, o, h1, h2, h3⟩ := hk.1.row hn
    have hb : s.v.ownBlock = some b := by simp [Sl.v, Value.ownBlock, h1]
    exact ⟨b, o, h1, hlt b hb, fun i x hi j v hj => (World.cell?_of_block (h b hb)).trans (h3 i x hi j v hj)⟩
theorem seeR_ok : (seeR sz enc s).ok w ↔ SlAt w.heap.size w enc sz s ∧ ∀ b, s.v.ownBlock = some b → b < w.heap.size := Iff.rfl
theorem seeR_dom {b : Nat} : (seeR sz enc s).dom b ↔ s.v.ownBlock = some b := Iff.rfl
theorem Hp.see (h : Hp S w0 w rs) (hj : rs[j]? = some (seeR sz enc s)) : SlAt w.heap.size w enc sz s := (h.get hj).1
theorem see_of (h : (rowR e sz enc s).ok w) : (seeR sz enc s).ok w := ⟨rowR_at h, fun b hb => (rowR e sz enc s).lt w h b (rowR_dom.2 hb)⟩
theorem Made.see (m : Made (rowR e sz enc s) w w') : Made (seeR sz enc s) w w' := ⟨m.chg, see_of m.ok, fun b hb => m.dom b (rowR_dom.2 hb)⟩
theorem Made.mut (m : Made r' w w') : Mut r r' w w' := ⟨m.chg.of0, m.ok, fun b hb => .inr (m.dom b hb)⟩
theorem see_cut (h : (seeR sz enc s).ok w) {lo hi : Nat} (h1 : lo ≤ hi) (h2 : hi ≤ s.l.length) (hc : Chg N0 w w') : Mut (seeR sz enc s) (seeR sz enc (s.cut sz lo hi)) w w' := by
  have hd : ∀ b, (s.cut sz lo hi).v.ownBlock = some b → s.v.ownBlock = some b := fun b hb => by
    cases hA : s.A with
    | none => simp [Sl.cut, Sl.v, hA, Value.ownBlock] at hb
    | some a =>
      simp only [Sl.cut, Sl.v, hA, Option.map_some] at hb
      simp only [Sl.v, hA, Value.ownBlock]
      split at hb
      · exact hb
      · have h1 : some (a.add (lo * sz)).block = some b := hb
        rw [← h1]
        unfold Addr.add
        split <;> rfl
  have hk := (seeR sz enc s).keep0 h hc
  exact ⟨hc.of0, ⟨hk.1.cut h1 h2, fun b hb => hk.2 b (hd b hb)⟩, fun b hb => .inl (hd b hb)⟩
end
end Go.Proofs.Ytdncnepedkkamaa
