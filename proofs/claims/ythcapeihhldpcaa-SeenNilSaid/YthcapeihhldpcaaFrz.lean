/- Frz: rows of a constant string's bytes (the place behind the last cell is marked), and an append that must make a new row. No condition. -/
import Derived.Test.YthcapeihhldpcaaSub
namespace Go.Proofs.Ythcapeihhldpcaa
set_option linter.unusedSimpArgs false
set_option linter.unusedVariables false
open Go.RowKit
set_option maxRecDepth 100000
set_option maxHeartbeats 2000000

section
variable {α : Type} {P : Program} {S : Nat → Prop} {w0 w w' : World} {rs : List Res} {enc : α → List Value} {e t : TypeId} {sz bytes B j : Nat} {s s2 : Sl α} {ρ : Operand → Value} {o : Oper} {g : Value → World → Prop}
/-- a row of its own that may be marked -/
def frzR {α : Type} (e : TypeId) (sz : Nat) (enc : α → List Value) (s : Sl α) : Res where
  dom b := s.v.ownBlock = some b
  ok w := ∃ b fz, s.A = some ⟨b, 0, none⟩ ∧ w.heap[b]? = some (.cells (s.l.flatMap enc).toArray e fz) ∧ (∀ x ∈ s.l, (enc x).length = sz) ∧ s.c = s.l.length ∧ s.l.length ≤ maxLen
  lt w h b hb := by
    obtain ⟨g, fz, h1, h2, _⟩ := h
    rw [Sl.v, h1] at hb
    cases hb
    exact heap_lt h2
  loc w w' h hk := by
    obtain ⟨g, fz, h1, h2, h3⟩ := hk
    exact ⟨g, fz, h1, (h g (by rw [Sl.v, h1]; rfl)).trans h2, h3⟩
theorem frzR_at (h : (frzR e sz enc s).ok w) : SlAt w.heap.size w enc sz s := by
  obtain ⟨b, fz, h1, h2, h3, h4, h5⟩ := h
  refine ⟨by omega, by omega, (fun hA => by rw [h1] at hA; cases hA), fun _ => ⟨b, 0, h1, heap_lt h2, fun i x hi q v hq => ?_⟩⟩
  have h6 := flat_at h3 i x hi q v hq
  refine cell_of_heap h2 ?_
  rw [Nat.zero_add]
  simpa using h6
theorem Hp.frz (h : Hp S w0 w rs) (hj : rs[j]? = some (frzR e sz enc s)) : SlAt w.heap.size w enc sz s := frzR_at (h.get hj)
theorem SlAt.flat (h2 : SlAt B w enc sz s2) (hl : ∀ x ∈ s2.l, (enc x).length = sz) (hsz : 0 < sz) {ad : Addr} (hA : s2.A = some ad) : ∀ j u, (s2.l.flatMap enc)[j]? = some u → w.cell? (ad.add j) = some u := fun j u hj => by
  have hne : s2.l ≠ [] := fun e => by rw [e] at hj; simp at hj
  obtain ⟨b, o, h3, _, h4⟩ := h2.row hne
  rw [hA] at h3
  cases h3
  rw [add_plain]
  have hjl := (List.getElem?_eq_some_iff.1 hj).1
  rw [flat_len hl] at hjl
  have hq : j / sz < s2.l.length := Nat.div_lt_of_lt_mul (by rw [Nat.mul_comm]; exact hjl)
  have hx := List.getElem?_eq_getElem hq
  have hlx := hl _ (List.getElem_mem hq)
  have hr : j % sz < (enc s2.l[j / sz]).length := by rw [hlx]; exact Nat.mod_lt _ hsz
  have h5 := flat_at hl _ _ hx _ _ (List.getElem?_eq_getElem hr)
  have e1 : j / sz * sz + j % sz = j := Nat.div_add_mod' j sz
  rw [e1, hj] at h5
  cases h5
  have h6 := h4 _ _ hx _ _ (List.getElem?_eq_getElem hr)
  rwa [Nat.add_assoc, e1] at h6
/-- append where there is no room: a new row -/
theorem run_appg (hE : ElT P t e sz bytes) (ty : TypeId) (h1 : SlAt B w enc sz s) (h2 : SlAt B w enc sz s2) (hl1 : ∀ x ∈ s.l, (enc x).length = sz) (hl2 : ∀ x ∈ s2.l, (enc x).length = sz) (hn1 : s.l ≠ []) (hn2 : s2.l ≠ []) (hc : s.c = s.l.length) (hb : (s.l.length + s2.l.length) * bytes ≤ 140737488355328) (hn : s.l.length + s2.l.length ≤ maxLen) :
    ∃ A' c' w', (Builtin.append_ #[t, t] ty #[s.v, s2.v]).run P w = .ok (.slice A' (s.l ++ s2.l).length c') w' ∧ (rowR e sz enc ⟨A', c', s.l ++ s2.l⟩).ok w' ∧ Chg N0 w w' ∧ (∀ b, (Sl.v (α := α) ⟨A', c', s.l ++ s2.l⟩).ownBlock = some b → w.heap.size ≤ b) := by
  obtain ⟨ht, i, z, hi, hz, hs, hby, hzs, hsz⟩ := hE
  subst hs hby
  obtain ⟨b1, o1, hA1, _, _⟩ := h1.row hn1
  obtain ⟨b2, o2, hA2, _, _⟩ := h2.row hn2
  have hp2 : 0 < s2.l.length := List.length_pos_iff.2 hn2
  have hsmall : s.l.length + s2.l.length ≤ 9223372036854775807 := by simp only [maxLen] at hn; omega
  have hr := run_append_grow (P := P) w t ty e i z ht hi hz ⟨b1, o1, none⟩ s.l.length s.c (s.l.flatMap enc) (flat_len hl1) (h1.flat hl1 hsz hA1) ⟨b2, o2, none⟩ s2.l.length s2.c (s2.l.flatMap enc) (flat_len hl2) (h2.flat hl2 hsz hA2) (by omega) (by omega) (growslice_fits (by omega) hb)
  have hge := grownCap_ge w (s.l.length + s2.l.length) s.c e
  have hcm := grownCap_le_maxLen w (s.l.length + s2.l.length) s.c e hn
  have e1 : s.v = .slice (some ⟨b1, o1, none⟩) s.l.length s.c := by rw [Sl.v, hA1]
  have e2 : s2.v = .slice (some ⟨b2, o2, none⟩) s2.l.length s2.c := by rw [Sl.v, hA2]
  have e3 : (s.l ++ s2.l).flatMap enc = s.l.flatMap enc ++ s2.l.flatMap enc := List.flatMap_append
  have hfl : (s.l.flatMap enc ++ s2.l.flatMap enc).length = (s.l.length + s2.l.length) * i.size := by rw [List.length_append, flat_len hl1, flat_len hl2, Nat.add_mul]
  rw [e1, e2]
  refine ⟨some ⟨w.heap.size, 0, none⟩, grownCap w (s.l.length + s2.l.length) s.c e, _, by rw [List.length_append]; exact hr, rowR_ok.2 ⟨⟨?_, .inr ⟨w.heap.size, grownCap w (s.l.length + s2.l.length) s.c e, _, rfl, Nat.zero_le _, heap_alloc_new w.drew _, by rw [List.length_append]; exact hge, hcm, ?_, ?_⟩⟩, fun x hx => ?_⟩, ((Chg.refl _ _).drew).alloc _, fun b hb => ?_⟩
  · rw [e3, hfl, List.length_append]
  · simp only [Array.size_append, List.size_toArray, size_zeroCells, hzs, flat_len hl1, flat_len hl2, ← Nat.add_mul]
    congr 1
    omega
  · rw [e3, List.length_append]
    simp only [Array.toList_append, List.append_assoc]
    rw [← List.append_assoc, ← hfl]
    exact List.take_left
  · rcases List.mem_append.1 hx with hx | hx
    · exact hl1 x hx
    · exact hl2 x hx
  · simp only [Sl.v, Value.ownBlock, Option.some.injEq] at hb
    omega
theorem gen_appg {x y : Operand} (hop : o.op = .call { callee := .builtin .append, args := #[x, y], argTypes := #[t, t] }) (h : Hp S w0 w rs) (hE : ElT P t e sz bytes) (s : Sl α) (hx : ρ x = s.v) (s2 : Sl α) (hy : ρ y = s2.v) (h1 : SlAt B w enc sz s) (h2 : SlAt B w enc sz s2) (hl1 : ∀ x ∈ s.l, (enc x).length = sz) (hl2 : ∀ x ∈ s2.l, (enc x).length = sz) (hn1 : s.l ≠ []) (hn2 : s2.l ≠ []) (hc : s.c = s.l.length)
    (hb : (s.l.length + s2.l.length) * bytes ≤ 140737488355328) (hn : s.l.length + s2.l.length ≤ maxLen)
    (hk : ∀ A' c' w', Chg N0 w w' → Hp S w0 w' (rowR e sz enc ⟨A', c', s.l ++ s2.l⟩ :: rs) → g (.slice A' (s.l ++ s2.l).length c') w') : Gen P ρ o w g := by
  obtain ⟨A', c', w', hrun, h3, h4, h5⟩ := run_appg hE o.type h1 h2 hl1 hl2 hn1 hn2 hc hb hn
  exact gen_v (by simp only [execOp, hop, resolve, invoke, builtin, Sem.run_bind, Sem.run_pure, Result.andThen_ok, List.map_toArray, List.map_cons, List.map_nil, hx, hy, hrun]) (hk A' c' w' h4 (h.new h4 h3 fun b hb => h5 b (rowR_dom.1 hb)))
/-- a constant string's bytes: the row is marked -/
theorem gen_mark {x : Operand} (hop : o.op = .convert t t x) (h : Hp S w0 w rs) (j : Nat) (hj : rs[j]? = some (rowR e sz enc s)) (ht : P.underlying t = some (.slice e)) (he : P.underlying e = some (.int .u8)) (hx : ρ x = s.v) (hn : s.l ≠ []) (hc : s.c = s.l.length)
    (hk : ∀ w', Hp S w0 w' (rs.set j (frzR e sz enc s)) → g s.v w') : Gen P ρ o w g := by
  obtain ⟨h1, h2⟩ := rowR_ok.1 (h.get hj)
  rcases h1.2 with ⟨_, h3⟩ | ⟨b, cap, cur, h3, _, h4, h5, h6, h7, h8⟩
  · exact absurd (List.eq_nil_of_length_eq_zero h3) hn
  · injection h3 with h3 _ h9
    have hcur : cur = (s.l.flatMap enc).toArray := by
      apply Array.ext'
      rw [List.toList_toArray, ← h8]
      exact (List.take_of_length_le (by rw [Array.length_toList, h7, ← h9, hc]; exact Nat.le_refl _)).symm
    subst hcur
    have hsv : s.v = .slice (some ⟨b, 0, none⟩) s.l.length s.c := by rw [Sl.v, h3]
    have hsh : w.shape? b = some (e, (s.l.flatMap enc).toArray.size) := by simp only [World.shape?, h4]
    have hrun : (convert t t (.slice (some ⟨b, 0, none⟩) s.l.length s.c)).run P w = .ok (.slice (some ⟨b, 0, none⟩) s.l.length s.c) (w.freeze ⟨b, (s.l.flatMap enc).toArray.size, none⟩ 1) := by
      simp [convert, run_underlying ht, run_underlying he, markStringish, hsh, shape, freeze, Sem.run]
    have hnew : (w.freeze ⟨b, (s.l.flatMap enc).toArray.size, none⟩ 1).heap[b]? = some (.cells (s.l.flatMap enc).toArray e ((s.l.flatMap enc).toArray.size, (s.l.flatMap enc).toArray.size + 1)) := by
      unfold World.freeze
      rw [if_neg (by decide)]
      show (w.heap.modify b _)[b]? = _
      rw [Array.getElem?_modify, if_pos rfl, h4]
      rfl
    rw [hsv] at hx hk
    refine gen_v (v := .slice (some ⟨b, 0, none⟩) s.l.length s.c) (by simp only [execOp, hop, hx, Sem.run_bind, hrun, Result.andThen_ok, Sem.run_pure]) (hk _ (h.mut hj ⟨?_, ?_, ?_, ?_, fun k hk hn => ?_, ?_⟩ ⟨b, _, h3, hnew, h2, hc, by omega⟩ fun k hk => .inl (rowR_dom.2 hk)))
    · unfold World.freeze; rw [if_neg (by decide)]
    · unfold World.freeze; rw [if_neg (by decide)]
    · unfold World.freeze; rw [if_neg (by decide)]
    · unfold World.freeze
      rw [if_neg (by decide)]
      show _ ≤ (w.heap.modify b _).size
      rw [Array.size_modify]
      exact Nat.le_refl _
    · unfold World.freeze
      rw [if_neg (by decide)]
      show (w.heap.modify b _)[k]? = _
      rw [Array.getElem?_modify, if_neg]
      rintro rfl
      exact hn (rowR_dom.2 (by rw [hsv]; rfl))
    · unfold World.freeze; rw [if_neg (by decide)]; exact Nat.le_refl _
end
end Go.Proofs.Ythcapeihhldpcaa
