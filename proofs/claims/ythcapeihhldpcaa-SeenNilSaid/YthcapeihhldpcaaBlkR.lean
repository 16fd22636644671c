/- BlkR: rows of the call's own that may have been cut short (s[:n:n]): they are read, cut, appended to. No condition. -/
import Derived.Test.YthcapeihhldpcaaFrz
namespace Go.Proofs.Ythcapeihhldpcaa
set_option linter.unusedSimpArgs false
set_option linter.unusedVariables false
open Go.RowKit
set_option maxRecDepth 100000
set_option maxHeartbeats 2000000

section
variable {α : Type} {P : Program} {S : Nat → Prop} {w0 w w' : World} {rs : List Res} {enc : α → List Value} {e t : TypeId} {sz bytes B j : Nat} {s s2 : Sl α} {ρ : Operand → Value} {o : Oper}
/-- cut short: no room behind it -/
def CutOk (e : TypeId) (sz : Nat) (enc : α → List Value) (s : Sl α) (w : World) : Prop := ∃ b cur fz, s.A = some ⟨b, 0, none⟩ ∧ w.heap[b]? = some (.cells cur e fz) ∧ (∀ x ∈ s.l, (enc x).length = sz) ∧ s.c = s.l.length ∧ s.l.length ≤ maxLen ∧ cur.toList.take (s.l.length * sz) = s.l.flatMap enc
def cutR (e : TypeId) (sz : Nat) (enc : α → List Value) (s : Sl α) : Res where
  dom b := s.v.ownBlock = some b
  ok w := (rowR e sz enc s).ok w ∨ CutOk e sz enc s w
  lt w h b hb := by
    rcases h with h | ⟨g, cur, fz, h1, h2, _⟩
    · exact (rowR e sz enc s).lt w h b (rowR_dom.2 hb)
    · rw [Sl.v, h1] at hb
      cases hb
      exact heap_lt h2
  loc w w' h hk := by
    rcases hk with hk | ⟨g, cur, fz, h1, h2, h3⟩
    · exact .inl ((rowR e sz enc s).loc w w' (fun b hb => h b (rowR_dom.1 hb)) hk)
    · exact .inr ⟨g, cur, fz, h1, (h g (by rw [Sl.v, h1]; rfl)).trans h2, h3⟩
theorem cutOk_at (h : CutOk e sz enc s w) : SlAt w.heap.size w enc sz s := by
  obtain ⟨b, cur, fz, h1, h2, h3, h4, h5, h6⟩ := h
  refine ⟨by omega, by omega, (fun hA => by rw [h1] at hA; cases hA), fun _ => ⟨b, 0, h1, heap_lt h2, fun i x hi q v hq => ?_⟩⟩
  have h7 := flat_at h3 i x hi q v hq
  rw [← h6] at h7
  have hlt : i * sz + q < s.l.length * sz := by
    have := (List.getElem?_eq_some_iff.1 h7).1
    rw [List.length_take] at this
    omega
  rw [List.getElem?_take_of_lt hlt] at h7
  refine cell_of_heap h2 ?_
  rw [Nat.zero_add]
  simpa using h7
theorem cutR_at (h : (cutR e sz enc s).ok w) : SlAt w.heap.size w enc sz s := h.elim rowR_at cutOk_at
theorem Hp.cutAt (h : Hp S w0 w rs) (hj : rs[j]? = some (cutR e sz enc s)) : SlAt w.heap.size w enc sz s := cutR_at (h.get hj)
/-- a row, as one that may have been cut -/
theorem Hp.toCut (h : Hp S w0 w rs) (hj : rs[j]? = some (rowR e sz enc s)) : Hp S w0 w (rs.set j (cutR e sz enc s)) := h.mut hj (Chg.refl _ _) (.inl (h.get hj)) fun _ hb => .inl (rowR_dom.2 hb)
theorem Hp.toRow (h : Hp S w0 w rs) (hj : rs[j]? = some (cutR e sz enc s)) (hr : (rowR e sz enc s).ok w) : Hp S w0 w (rs.set j (rowR e sz enc s)) := h.mut hj (Chg.refl _ _) hr fun _ hb => .inl (rowR_dom.1 hb)
/-- cut short -/
theorem cut_cells {l : List α} {cur : List Value} {n k : Nat} (hl : ∀ x ∈ l, (enc x).length = sz) (hk : k ≤ l.length) (h : cur.take (l.length * sz) = l.flatMap enc) : cur.take ((l.take k).length * sz) = (l.take k).flatMap enc := by
  have h1 : l.flatMap enc = (l.take k).flatMap enc ++ (l.drop k).flatMap enc := by rw [← List.flatMap_append, List.take_append_drop]
  have h2 : ((l.take k).flatMap enc).length = (l.take k).length * sz := flat_len fun x hx => hl x (List.mem_of_mem_take hx)
  have h3 : (l.take k).length * sz ≤ l.length * sz := Nat.mul_le_mul_right _ (by rw [List.length_take]; omega)
  have h4 : (cur.take (l.length * sz)).take ((l.take k).length * sz) = cur.take ((l.take k).length * sz) := by rw [List.take_take, Nat.min_eq_left h3]
  rw [← h4, h, h1, ← h2, List.take_left]
theorem Hp.cutTo (h : Hp S w0 w rs) (hj : rs[j]? = some (cutR e sz enc s)) (hne : s.l ≠ []) {k : Nat} (hk : k ≤ s.l.length) : Hp S w0 w (rs.set j (cutR e sz enc ⟨s.A, k, s.l.take k⟩)) := by
  have hlk : (s.l.take k).length = k := by rw [List.length_take]; omega
  refine h.mut hj (Chg.refl _ _) (.inr ?_) fun b hb => .inl ?_
  · rcases h.get hj with h1 | ⟨b, cur, fz, h1, h2, h3, h4, h5, h6⟩
    · obtain ⟨h2, h3⟩ := rowR_ok.1 h1
      rcases h2.2 with ⟨_, h4⟩ | ⟨b, cap, cur, h4, _, h5, h6, h7, h8, h9⟩
      · exact absurd (List.eq_nil_of_length_eq_zero h4) hne
      · injection h4 with h4 _ h10
        exact ⟨b, cur, (0, 0), h4, h5, fun x hx => h3 x (List.mem_of_mem_take hx), hlk.symm, by show (s.l.take k).length ≤ _; omega, cut_cells (n := 0) h3 hk h9⟩
    · exact ⟨b, cur, fz, h1, h2, fun x hx => h3 x (List.mem_of_mem_take hx), hlk.symm, by show (s.l.take k).length ≤ _; omega, cut_cells (n := 0) h3 hk h6⟩
  · have : (Sl.v (α := α) ⟨s.A, k, s.l.take k⟩).ownBlock = some b := hb
    show s.v.ownBlock = some b
    rw [Sl.v] at this ⊢
    cases hA : s.A with
    | none => rw [hA] at this; cases this
    | some a => rw [hA] at this; exact this
/-- append where there is no room -/
theorem run_appc (hE : ElT P t e sz bytes) (ty : TypeId) {b1 o1 : Nat} (hA1 : s.A = some ⟨b1, o1, none⟩) (h1 : SlAt B w enc sz s) (h2 : SlAt B w enc sz s2) (hl1 : ∀ x ∈ s.l, (enc x).length = sz) (hl2 : ∀ x ∈ s2.l, (enc x).length = sz) (hn2 : s2.l ≠ []) (hc : s.c = s.l.length) (hb : (s.l.length + s2.l.length) * bytes ≤ 140737488355328) (hn : s.l.length + s2.l.length ≤ maxLen) :
    ∃ A' c' w', (Builtin.append_ #[t, t] ty #[s.v, s2.v]).run P w = .ok (.slice A' (s.l ++ s2.l).length c') w' ∧ (rowR e sz enc ⟨A', c', s.l ++ s2.l⟩).ok w' ∧ Chg N0 w w' ∧ (∀ b, (Sl.v (α := α) ⟨A', c', s.l ++ s2.l⟩).ownBlock = some b → w.heap.size ≤ b) := by
  obtain ⟨ht, i, z, hi, hz, hs, hby, hzs, hsz⟩ := hE
  subst hs hby
  obtain ⟨b2, o2, hA2, _, _⟩ := h2.row hn2
  have hp2 : 0 < s2.l.length := List.length_pos_iff.2 hn2
  have hsmall : s.l.length + s2.l.length ≤ 9223372036854775807 := by simp only [maxLen] at hn; omega
  have hr := run_append_grow (P := P) w t ty e i z ht hi hz ⟨b1, o1, none⟩ s.l.length s.c (s.l.flatMap enc) (flat_len hl1) (h1.flat hl1 hsz hA1) ⟨b2, o2, none⟩ s2.l.length s2.c (s2.l.flatMap enc) (flat_len hl2) (h2.flat hl2 hsz hA2) (by omega) (by omega) (growslice_fits (by omega) hb)
  have hge := grownCap_ge w (s.l.length + s2.l.length) s.c e
  have hcm := grownCap_le_maxLen w (s.l.length + s2.l.length) s.c e hn
  have e1 : s.v = .slice (some ⟨b1, o1, none⟩) s.l.length s.c := by rw [Sl.v, hA1]
  have e2 : s2.v = .slice (some ⟨b2, o2, none⟩) s2.l.length s2.c := by rw [Sl.v, hA2]
  have e3 : (s.l ++ s2.l).flatMap enc = s.l.flatMap enc ++ s2.l.flatMap enc := List.flatMap_append
  have hfl : (s.l.flatMap enc ++ s2.l.flatMap enc).length = (s.l.length + s2.l.length) * i.size := by rw [List.length_append, flat_len hl1, flat_len hl2, Nat.add_mul]
  rw [e1, e2]
  refine ⟨some ⟨w.heap.size, 0, none⟩, grownCap w (s.l.length + s2.l.length) s.c e, _, by rw [List.length_append]; exact hr, rowR_ok.2 ⟨⟨?_, .inr ⟨w.heap.size, grownCap w (s.l.length + s2.l.length) s.c e, _, rfl, Nat.zero_le _, heap_alloc_new w.drew _, by rw [List.length_append]; exact hge, hcm, ?_, ?_⟩⟩, fun x hx => ?_⟩, ((Chg.refl _ _).drew).alloc _, fun b hb => ?_⟩
  · rw [e3, hfl, List.length_append]
  · simp only [Array.size_append, List.size_toArray, size_zeroCells, hzs, flat_len hl1, flat_len hl2, ← Nat.add_mul]
    congr 1
    omega
  · rw [e3, List.length_append]
    simp only [Array.toList_append, List.append_assoc]
    rw [← List.append_assoc, ← hfl]
    exact List.take_left
  · rcases List.mem_append.1 hx with hx | hx
    · exact hl1 x hx
    · exact hl2 x hx
  · simp only [Sl.v, Value.ownBlock, Option.some.injEq] at hb
    omega
/-- append to a row that may have been cut: a row again in its place -/
theorem gen_appc {g : Value → World → Prop} {x y : Operand} (hop : o.op = .call { callee := .builtin .append, args := #[x, y], argTypes := #[t, t] }) (h : Hp S w0 w rs) (hj : rs[j]? = some (cutR e sz enc s)) (hE : ElT P t e sz bytes) (hx : ρ x = s.v) (s2 : Sl α) (hy : ρ y = s2.v) (h2 : SlAt w.heap.size w enc sz s2) (hl2 : ∀ x ∈ s2.l, (enc x).length = sz) (h1 : ∀ x ∈ s2.l, ∀ v ∈ enc x, v.oneCell' = true) (hn2 : s2.l ≠ [])
    (hb : (s.l.length + s2.l.length) * bytes ≤ 140737488355328) (hn : s.l.length + s2.l.length ≤ maxLen)
    (hk : ∀ A' c' w', Hp S w0 w' (rs.set j (cutR e sz enc ⟨A', c', s.l ++ s2.l⟩)) → g (.slice A' (s.l ++ s2.l).length c') w') : Gen P ρ o w g := by
  have hjl := (List.getElem?_eq_some_iff.1 hj).1
  rcases h.get hj with hr | hc
  · have hp := h.toRow hj hr
    refine gen_app hop hp j (by rw [List.getElem?_set_self hjl]) hE hx s2 hy h2 hl2 h1 hb hn fun A' c' w' hp2 => hk A' c' w' ?_
    have hp3 := hp2.toCut (j := j) (by rw [List.set_set, List.getElem?_set_self hjl])
    rwa [List.set_set, List.set_set] at hp3
  · have hat := cutOk_at hc
    obtain ⟨b, cur, fz, hA, -, hl1, hcc, -, -⟩ := hc
    obtain ⟨A', c', w', hrun, h3, h4, h5⟩ := run_appc hE o.type hA hat h2 hl1 hl2 hn2 hcc hb hn
    exact gen_v (by simp only [execOp, hop, resolve, invoke, builtin, Sem.run_bind, Sem.run_pure, Result.andThen_ok, List.map_toArray, List.map_cons, List.map_nil, hx, hy, hrun]) (hk A' c' w' (h.mut hj h4.of0 (.inl h3) fun b hb => .inr (h5 b hb)))
end
end Go.Proofs.Ythcapeihhldpcaa
