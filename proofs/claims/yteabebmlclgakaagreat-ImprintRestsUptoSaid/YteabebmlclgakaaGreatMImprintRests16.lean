/- MImprintRests16: Out, Frz, BlkR, SeenI, Seen1, Rdx, Seen2. -/
import Derived.Test.YteabebmlclgakaaGreatMImprintRests9
import Derived.Test.YteabebmlclgakaaGreatMImprintRests13
import Derived.Test.YteabebmlclgakaaGreatMImprintRests15
import Derived.Test.YteabebmlclgakaaGreatMImprintRests11
/- Out: slices outside what is changed. No condition. -/
namespace Go.Proofs.YteabebmlclgakaaGreat
set_option linter.unusedSimpArgs false
set_option linter.unusedVariables false
open Go.RowKit
set_option maxRecDepth 100000
set_option maxHeartbeats 2000000
theorem ld_rowat0 {α : Type} {w : World} {enc : α → List Value} {sz b o : Nat} {l : List α} (hr : RowAt w enc sz b o l) {a : Addr} {k : Value → Prop} (i : Nat) (ha : a = ⟨b, o + i * sz, none⟩) {x : α} (hi : l[i]? = some x) {v : Value} (hv : (enc x)[0]? = some v) (hk : k v) : Ld w a k := by
  subst ha
  exact ld_of (hr i x hi 0 v hv) hk
/-- a slice outside some blocks -/
structure SlOut {α : Type} (S : Nat → Prop) (B : Nat) (w : World) (enc : α → List Value) (sz : Nat) (s : Sl α) : Prop where
  at_ : SlAt B w enc sz s
  out : s.l ≠ [] → ∀ b o, s.A = some ⟨b, o, none⟩ → ¬ S b
theorem SlOut.keep {α : Type} {S : Nat → Prop} {B : Nat} {w w' : World} {enc : α → List Value} {sz : Nat} {s : Sl α} (h : SlOut S B w enc sz s) (hc : Chg S w w') : SlAt B w' enc sz s := h.at_.keepS hc h.out
theorem out_row {α : Type} {S : Nat → Prop} {w0 w : World} {rs : List Res} {r : Res} {e : TypeId} {sz : Nat} {enc : α → List Value} {s : Sl α} (h : Hp S w0 w (rowR e sz enc s :: rs)) (hr : r ∈ rs) : SlOut r.dom w.heap.size w enc sz s :=
  ⟨h.row (j := 0) rfl, fun _ k o hA => (List.pairwise_cons.1 h.sep).1 r hr k (rowR_dom.2 (by simp [Sl.v, Value.ownBlock, hA]))⟩
end Go.Proofs.YteabebmlclgakaaGreat
/- Frz: rows of a constant string's bytes (the place behind the last cell is marked), and an append that must make a new row. No condition. -/
namespace Go.Proofs.YteabebmlclgakaaGreat
set_option linter.unusedSimpArgs false
set_option linter.unusedVariables false
open Go.RowKit
set_option maxRecDepth 100000
set_option maxHeartbeats 2000000
section
variable {α : Type} {P : Program} {S : Nat → Prop} {w0 w w' : World} {rs : List Res} {enc : α → List Value} {e t : TypeId} {sz bytes B j : Nat} {s s2 : Sl α} {ρ : Operand → Value} {o : Oper} {g : Value → World → Prop}
/-- a row of its own that may be marked -/
def frzR {α : Type} (e : TypeId) (sz : Nat) (enc : α → List Value) (s : Sl α) : Res where
  dom b := s.v.ownBlock = some b
  ok w := ∃ b fz, s.A = some ⟨b, 0, none⟩ ∧ w.heap[b]? = some (.cells (s.l.flatMap enc).toArray e fz) ∧ (∀ x ∈ s.l, (enc x).length = sz) ∧ s.c = s.l.length ∧ s.l.length ≤ maxLen
  lt w h b hb := by
    obtain ⟨g, fz, h1, h2, _⟩ := h
    rw [Sl.v, h1] at hb
    cases hb
    exact heap_lt h2
  loc w w' h hk := by
    obtain ⟨g, fz, h1, h2, h3⟩ := hk
    exact ⟨g, fz, h1, (h g (by rw [Sl.v, h1]; rfl)).trans h2, h3⟩
theorem frzR_at (h : (frzR e sz enc s).ok w) : SlAt w.heap.size w enc sz s := by
  obtain ⟨b, fz, h1, h2, h3, h4, h5⟩ := h
  refine ⟨by omega, by omega, (fun hA => by rw [h1] at hA; cases hA), fun _ => ⟨b, 0, h1, heap_lt h2, fun i x hi q v hq => ?_⟩⟩
  have h6 := flat_at h3 i x hi q v hq
  refine cell_of_heap h2 ?_
  rw [Nat.zero_add]
  simpa using h6
theorem Hp.frz (h : Hp S w0 w rs) (hj : rs[j]? = some (frzR e sz enc s)) : SlAt w.heap.size w enc sz s := frzR_at (h.get hj)
theorem SlAt.flat (h2 : SlAt B w enc sz s2) (hl : ∀ x ∈ s2.l, (enc x).length = sz) (hsz : 0 < sz) {ad : Addr} (hA : s2.A = some ad) : ∀ j u, (s2.l.flatMap enc)[j]? = some u → w.cell? (ad.add j) = some u := fun j u hj => by
  have hne : s2.l ≠ [] := fun e => by rw [e] at hj; simp at hj
  obtain ⟨b, o, h3, _, h4⟩ := h2.row hne
  rw [hA] at h3
  cases h3
  rw [add_plain]
  have hjl := (List.getElem?_eq_some_iff.1 hj).1
  rw [flat_len hl] at hjl
  have hq : j / sz < s2.l.length := Nat.div_lt_of_lt_mul (by rw [Nat.mul_comm]; exact hjl)
  have hx := List.getElem?_eq_getElem hq
  have hlx := hl _ (List.getElem_mem hq)
  have hr : j % sz < (enc s2.l[j / sz]).length := by rw [hlx]; exact Nat.mod_lt _ hsz
  have h5 := flat_at hl _ _ hx _ _ (List.getElem?_eq_getElem hr)
  have e1 : j / sz * sz + j % sz = j := Nat.div_add_mod' j sz
  rw [e1, hj] at h5
  cases h5
  have h6 := h4 _ _ hx _ _ (List.getElem?_eq_getElem hr)
  rwa [Nat.add_assoc, e1] at h6
/-- append where there is no room: a new row -/
theorem run_appg (hE : ElT P t e sz bytes) (ty : TypeId) (h1 : SlAt B w enc sz s) (h2 : SlAt B w enc sz s2) (hl1 : ∀ x ∈ s.l, (enc x).length = sz) (hl2 : ∀ x ∈ s2.l, (enc x).length = sz) (hn1 : s.l ≠ []) (hn2 : s2.l ≠ []) (hc : s.c = s.l.length) (hb : (s.l.length + s2.l.length) * bytes ≤ 140737488355328) (hn : s.l.length + s2.l.length ≤ maxLen) :
    ∃ A' c' w', (Builtin.append_ #[t, t] ty #[s.v, s2.v]).run P w = .ok (.slice A' (s.l ++ s2.l).length c') w' ∧ (rowR e sz enc ⟨A', c', s.l ++ s2.l⟩).ok w' ∧ Chg N0 w w' ∧ (∀ b, (Sl.v (α := α) ⟨A', c', s.l ++ s2.l⟩).ownBlock = some b → w.heap.size ≤ b) := by
  obtain ⟨ht, i, z, hi, hz, hs, hby, hzs, hsz⟩ := hE
  subst hs hby
  obtain ⟨b1, o1, hA1, _, _⟩ := h1.row hn1
  obtain ⟨b2, o2, hA2, _, _⟩ := h2.row hn2
  have hp2 : 0 < s2.l.length := List.length_pos_iff.2 hn2
  have hsmall : s.l.length + s2.l.length ≤ 9223372036854775807 := by simp only [maxLen] at hn; omega
  have hr := run_append_grow (P := P) w t ty e i z ht hi hz ⟨b1, o1, none⟩ s.l.length s.c (s.l.flatMap enc) (flat_len hl1) (h1.flat hl1 hsz hA1) ⟨b2, o2, none⟩ s2.l.length s2.c (s2.l.flatMap enc) (flat_len hl2) (h2.flat hl2 hsz hA2) (by omega) (by omega) (growslice_fits (by omega) hb)
  have hge := grownCap_ge w (s.l.length + s2.l.length) s.c e
  have hcm := grownCap_le_maxLen w (s.l.length + s2.l.length) s.c e hn
  have e1 : s.v = .slice (some ⟨b1, o1, none⟩) s.l.length s.c := by rw [Sl.v, hA1]
  have e2 : s2.v = .slice (some ⟨b2, o2, none⟩) s2.l.length s2.c := by rw [Sl.v, hA2]
  have e3 : (s.l ++ s2.l).flatMap enc = s.l.flatMap enc ++ s2.l.flatMap enc := List.flatMap_append
  have hfl : (s.l.flatMap enc ++ s2.l.flatMap enc).length = (s.l.length + s2.l.length) * i.size := by rw [List.length_append, flat_len hl1, flat_len hl2, Nat.add_mul]
  rw [e1, e2]
  refine ⟨some ⟨w.heap.size, 0, none⟩, grownCap w (s.l.length + s2.l.length) s.c e, _, by rw [List.length_append]; exact hr, rowR_ok.2 ⟨⟨?_, .inr ⟨w.heap.size, grownCap w (s.l.length + s2.l.length) s.c e, _, rfl, Nat.zero_le _, heap_alloc_new w.drew _, by rw [List.length_append]; exact hge, hcm, ?_, ?_⟩⟩, fun x hx => ?_⟩, ((Chg.refl _ _).drew).alloc _, fun b hb => ?_⟩
  · rw [e3, hfl, List.length_append]
  · simp only [Array.size_append, List.size_toArray, size_zeroCells, hzs, flat_len hl1, flat_len hl2, ← Nat.add_mul]
    congr 1
    omega
  · rw [e3, List.length_append]
    simp only [Array.toList_append, List.append_assoc]
    rw [← List.append_assoc, ← hfl]
    exact List.take_left
  · rcases List.mem_append.1 hx with hx | hx
    · exact hl1 x hx
    · exact hl2 x hx
  · simp only [Sl.v, Value.ownBlock, Option.some.injEq] at hb
    omega
theorem gen_appg {x y : Operand} (hop : o.op = .call { callee := .builtin .append, args := #[x, y], argTypes := #[t, t] }) (h : Hp S w0 w rs) (hE : ElT P t e sz bytes) (s : Sl α) (hx : ρ x = s.v) (s2 : Sl α) (hy : ρ y = s2.v) (h1 : SlAt B w enc sz s) (h2 : SlAt B w enc sz s2) (hl1 : ∀ x ∈ s.l, (enc x).length = sz) (hl2 : ∀ x ∈ s2.l, (enc x).length = sz) (hn1 : s.l ≠ []) (hn2 : s2.l ≠ []) (hc : s.c = s.l.length)
    (hb : (s.l.length + s2.l.length) * bytes ≤ 140737488355328) (hn : s.l.length + s2.l.length ≤ maxLen)
    (hk : ∀ A' c' w', Chg N0 w w' → Hp S w0 w' (rowR e sz enc ⟨A', c', s.l ++ s2.l⟩ :: rs) → g (.slice A' (s.l ++ s2.l).length c') w') : Gen P ρ o w g := by
  obtain ⟨A', c', w', hrun, h3, h4, h5⟩ := run_appg hE o.type h1 h2 hl1 hl2 hn1 hn2 hc hb hn
  exact gen_v (by simp only [execOp, hop, resolve, invoke, builtin, Sem.run_bind, Sem.run_pure, Result.andThen_ok, List.map_toArray, List.map_cons, List.map_nil, hx, hy, hrun]) (hk A' c' w' h4 (h.new h4 h3 fun b hb => h5 b (rowR_dom.1 hb)))
/-- a constant string's bytes: the row is marked -/
theorem gen_mark {x : Operand} (hop : o.op = .convert t t x) (h : Hp S w0 w rs) (j : Nat) (hj : rs[j]? = some (rowR e sz enc s)) (ht : P.underlying t = some (.slice e)) (he : P.underlying e = some (.int .u8)) (hx : ρ x = s.v) (hn : s.l ≠ []) (hc : s.c = s.l.length)
    (hk : ∀ w', Hp S w0 w' (rs.set j (frzR e sz enc s)) → g s.v w') : Gen P ρ o w g := by
  obtain ⟨h1, h2⟩ := rowR_ok.1 (h.get hj)
  rcases h1.2 with ⟨_, h3⟩ | ⟨b, cap, cur, h3, _, h4, h5, h6, h7, h8⟩
  · exact absurd (List.eq_nil_of_length_eq_zero h3) hn
  · injection h3 with h3 _ h9
    have hcur : cur = (s.l.flatMap enc).toArray := by
      apply Array.ext'
      rw [List.toList_toArray, ← h8]
      exact (List.take_of_length_le (by rw [Array.length_toList, h7, ← h9, hc]; exact Nat.le_refl _)).symm
    subst hcur
    have hsv : s.v = .slice (some ⟨b, 0, none⟩) s.l.length s.c := by rw [Sl.v, h3]
    have hsh : w.shape? b = some (e, (s.l.flatMap enc).toArray.size) := by simp only [World.shape?, h4]
    have hrun : (convert t t (.slice (some ⟨b, 0, none⟩) s.l.length s.c)).run P w = .ok (.slice (some ⟨b, 0, none⟩) s.l.length s.c) (w.freeze ⟨b, (s.l.flatMap enc).toArray.size, none⟩ 1) := by
      simp [convert, run_underlying ht, run_underlying he, markStringish, hsh, shape, freeze, Sem.run]
    have hnew : (w.freeze ⟨b, (s.l.flatMap enc).toArray.size, none⟩ 1).heap[b]? = some (.cells (s.l.flatMap enc).toArray e ((s.l.flatMap enc).toArray.size, (s.l.flatMap enc).toArray.size + 1)) := by
      unfold World.freeze
      rw [if_neg (by decide)]
      show (w.heap.modify b _)[b]? = _
      rw [Array.getElem?_modify, if_pos rfl, h4]
      rfl
    rw [hsv] at hx hk
    refine gen_v (v := .slice (some ⟨b, 0, none⟩) s.l.length s.c) (by simp only [execOp, hop, hx, Sem.run_bind, hrun, Result.andThen_ok, Sem.run_pure]) (hk _ (h.mut hj ⟨?_, ?_, ?_, ?_, fun k hk hn => ?_, ?_⟩ ⟨b, _, h3, hnew, h2, hc, by omega⟩ fun k hk => .inl (rowR_dom.2 hk)))
    · unfold World.freeze; rw [if_neg (by decide)]
    · unfold World.freeze; rw [if_neg (by decide)]
    · unfold World.freeze; rw [if_neg (by decide)]
    · unfold World.freeze
      rw [if_neg (by decide)]
      show _ ≤ (w.heap.modify b _).size
      rw [Array.size_modify]
      exact Nat.le_refl _
    · unfold World.freeze
      rw [if_neg (by decide)]
      show (w.heap.modify b _)[k]? = _
      rw [Array.getElem?_modify, if_neg]
      rintro rfl
      exact hn (rowR_dom.2 (by rw [hsv]; rfl))
    · unfold World.freeze; rw [if_neg (by decide)]; exact Nat.le_refl _
end
end Go.Proofs.YteabebmlclgakaaGreat
/- BlkR: rows of the call's own that may have been cut short (s[:n:n]): they are read, cut, appended to. No condition. -/
namespace Go.Proofs.YteabebmlclgakaaGreat
set_option linter.unusedSimpArgs false
set_option linter.unusedVariables false
open Go.RowKit
set_option maxRecDepth 100000
set_option maxHeartbeats 2000000
section
variable {α : Type} {P : Program} {S : Nat → Prop} {w0 w w' : World} {rs : List Res} {enc : α → List Value} {e t : TypeId} {sz bytes B j : Nat} {s s2 : Sl α} {ρ : Operand → Value} {o : Oper}
/-- cut short: no room behind it -/
def CutOk (e : TypeId) (sz : Nat) (enc : α → List Value) (s : Sl α) (w : World) : Prop := ∃ b cur fz, s.A = some ⟨b, 0, none⟩ ∧ w.heap[b]? = some (.cells cur e fz) ∧ (∀ x ∈ s.l, (enc x).length = sz) ∧ s.c = s.l.length ∧ s.l.length ≤ maxLen ∧ cur.toList.take (s.l.length * sz) = s.l.flatMap enc
def cutR (e : TypeId) (sz : Nat) (enc : α → List Value) (s : Sl α) : Res where
  dom b := s.v.ownBlock = some b
  ok w := (rowR e sz enc s).ok w ∨ CutOk e sz enc s w
  lt w h b hb := by
    rcases h with h | ⟨g, cur, fz, h1, h2, _⟩
    · exact (rowR e sz enc s).lt w h b (rowR_dom.2 hb)
    · rw [Sl.v, h1] at hb
      cases hb
      exact heap_lt h2
  loc w w' h hk := by
    rcases hk with hk | ⟨g, cur, fz, h1, h2, h3⟩
    · exact .inl ((rowR e sz enc s).loc w w' (fun b hb => h b (rowR_dom.1 hb)) hk)
    · exact .inr ⟨g, cur, fz, h1, (h g (by rw [Sl.v, h1]; rfl)).trans h2, h3⟩
theorem cutOk_at (h : CutOk e sz enc s w) : SlAt w.heap.size w enc sz s := by
  obtain ⟨b, cur, fz, h1, h2, h3, h4, h5, h6⟩ := h
  refine ⟨by omega, by omega, (fun hA => by rw [h1] at hA; cases hA), fun _ => ⟨b, 0, h1, heap_lt h2, fun i x hi q v hq => ?_⟩⟩
  have h7 := flat_at h3 i x hi q v hq
  rw [← h6] at h7
  have hlt : i * sz + q < s.l.length * sz := by
    have := (List.getElem?_eq_some_iff.1 h7).1
    rw [List.length_take] at this
    omega
  rw [List.getElem?_take_of_lt hlt] at h7
  refine cell_of_heap h2 ?_
  rw [Nat.zero_add]
  simpa using h7
theorem cutR_at (h : (cutR e sz enc s).ok w) : SlAt w.heap.size w enc sz s := h.elim rowR_at cutOk_at
theorem Hp.cutAt (h : Hp S w0 w rs) (hj : rs[j]? = some (cutR e sz enc s)) : SlAt w.heap.size w enc sz s := cutR_at (h.get hj)
/-- a row, as one that may have been cut -/
theorem Hp.toCut (h : Hp S w0 w rs) (hj : rs[j]? = some (rowR e sz enc s)) : Hp S w0 w (rs.set j (cutR e sz enc s)) := h.mut hj (Chg.refl _ _) (.inl (h.get hj)) fun _ hb => .inl (rowR_dom.2 hb)
theorem Hp.toRow (h : Hp S w0 w rs) (hj : rs[j]? = some (cutR e sz enc s)) (hr : (rowR e sz enc s).ok w) : Hp S w0 w (rs.set j (rowR e sz enc s)) := h.mut hj (Chg.refl _ _) hr fun _ hb => .inl (rowR_dom.1 hb)
/-- cut short -/
theorem cut_cells {l : List α} {cur : List Value} {n k : Nat} (hl : ∀ x ∈ l, (enc x).length = sz) (hk : k ≤ l.length) (h : cur.take (l.length * sz) = l.flatMap enc) : cur.take ((l.take k).length * sz) = (l.take k).flatMap enc := by
  have h1 : l.flatMap enc = (l.take k).flatMap enc ++ (l.drop k).flatMap enc := by rw [← List.flatMap_append, List.take_append_drop]
  have h2 : ((l.take k).flatMap enc).length = (l.take k).length * sz := flat_len fun x hx => hl x (List.mem_of_mem_take hx)
  have h3 : (l.take k).length * sz ≤ l.length * sz := Nat.mul_le_mul_right _ (by rw [List.length_take]; omega)
  have h4 : (cur.take (l.length * sz)).take ((l.take k).length * sz) = cur.take ((l.take k).length * sz) := by rw [List.take_take, Nat.min_eq_left h3]
  rw [← h4, h, h1, ← h2, List.take_left]
theorem Hp.cutTo (h : Hp S w0 w rs) (hj : rs[j]? = some (cutR e sz enc s)) (hne : s.l ≠ []) {k : Nat} (hk : k ≤ s.l.length) : Hp S w0 w (rs.set j (cutR e sz enc ⟨s.A, k, s.l.take k⟩)) := by
  have hlk : (s.l.take k).length = k := by rw [List.length_take]; omega
  refine h.mut hj (Chg.refl _ _) (.inr ?_) fun b hb => .inl ?_
  · rcases h.get hj with h1 | ⟨b, cur, fz, h1, h2, h3, h4, h5, h6⟩
    · obtain ⟨h2, h3⟩ := rowR_ok.1 h1
      rcases h2.2 with ⟨_, h4⟩ | ⟨b, cap, cur, h4, _, h5, h6, h7, h8, h9⟩
      · exact absurd (List.eq_nil_of_length_eq_zero h4) hne
      · injection h4 with h4 _ h10
        exact ⟨b, cur, (0, 0), h4, h5, fun x hx => h3 x (List.mem_of_mem_take hx), hlk.symm, by show (s.l.take k).length ≤ _; omega, cut_cells (n := 0) h3 hk h9⟩
    · exact ⟨b, cur, fz, h1, h2, fun x hx => h3 x (List.mem_of_mem_take hx), hlk.symm, by show (s.l.take k).length ≤ _; omega, cut_cells (n := 0) h3 hk h6⟩
  · have : (Sl.v (α := α) ⟨s.A, k, s.l.take k⟩).ownBlock = some b := hb
    show s.v.ownBlock = some b
    rw [Sl.v] at this ⊢
    cases hA : s.A with
    | none => rw [hA] at this; cases this
    | some a => rw [hA] at this; exact this
/-- append where there is no room -/
theorem run_appc (hE : ElT P t e sz bytes) (ty : TypeId) {b1 o1 : Nat} (hA1 : s.A = some ⟨b1, o1, none⟩) (h1 : SlAt B w enc sz s) (h2 : SlAt B w enc sz s2) (hl1 : ∀ x ∈ s.l, (enc x).length = sz) (hl2 : ∀ x ∈ s2.l, (enc x).length = sz) (hn2 : s2.l ≠ []) (hc : s.c = s.l.length) (hb : (s.l.length + s2.l.length) * bytes ≤ 140737488355328) (hn : s.l.length + s2.l.length ≤ maxLen) :
    ∃ A' c' w', (Builtin.append_ #[t, t] ty #[s.v, s2.v]).run P w = .ok (.slice A' (s.l ++ s2.l).length c') w' ∧ (rowR e sz enc ⟨A', c', s.l ++ s2.l⟩).ok w' ∧ Chg N0 w w' ∧ (∀ b, (Sl.v (α := α) ⟨A', c', s.l ++ s2.l⟩).ownBlock = some b → w.heap.size ≤ b) := by
  obtain ⟨ht, i, z, hi, hz, hs, hby, hzs, hsz⟩ := hE
  subst hs hby
  obtain ⟨b2, o2, hA2, _, _⟩ := h2.row hn2
  have hp2 : 0 < s2.l.length := List.length_pos_iff.2 hn2
  have hsmall : s.l.length + s2.l.length ≤ 9223372036854775807 := by simp only [maxLen] at hn; omega
  have hr := run_append_grow (P := P) w t ty e i z ht hi hz ⟨b1, o1, none⟩ s.l.length s.c (s.l.flatMap enc) (flat_len hl1) (h1.flat hl1 hsz hA1) ⟨b2, o2, none⟩ s2.l.length s2.c (s2.l.flatMap enc) (flat_len hl2) (h2.flat hl2 hsz hA2) (by omega) (by omega) (growslice_fits (by omega) hb)
  have hge := grownCap_ge w (s.l.length + s2.l.length) s.c e
  have hcm := grownCap_le_maxLen w (s.l.length + s2.l.length) s.c e hn
  have e1 : s.v = .slice (some ⟨b1, o1, none⟩) s.l.length s.c := by rw [Sl.v, hA1]
  have e2 : s2.v = .slice (some ⟨b2, o2, none⟩) s2.l.length s2.c := by rw [Sl.v, hA2]
  have e3 : (s.l ++ s2.l).flatMap enc = s.l.flatMap enc ++ s2.l.flatMap enc := List.flatMap_append
  have hfl : (s.l.flatMap enc ++ s2.l.flatMap enc).length = (s.l.length + s2.l.length) * i.size := by rw [List.length_append, flat_len hl1, flat_len hl2, Nat.add_mul]
  rw [e1, e2]
  refine ⟨some ⟨w.heap.size, 0, none⟩, grownCap w (s.l.length + s2.l.length) s.c e, _, by rw [List.length_append]; exact hr, rowR_ok.2 ⟨⟨?_, .inr ⟨w.heap.size, grownCap w (s.l.length + s2.l.length) s.c e, _, rfl, Nat.zero_le _, heap_alloc_new w.drew _, by rw [List.length_append]; exact hge, hcm, ?_, ?_⟩⟩, fun x hx => ?_⟩, ((Chg.refl _ _).drew).alloc _, fun b hb => ?_⟩
  · rw [e3, hfl, List.length_append]
  · simp only [Array.size_append, List.size_toArray, size_zeroCells, hzs, flat_len hl1, flat_len hl2, ← Nat.add_mul]
    congr 1
    omega
  · rw [e3, List.length_append]
    simp only [Array.toList_append, List.append_assoc]
    rw [← List.append_assoc, ← hfl]
    exact List.take_left
  · rcases List.mem_append.1 hx with hx | hx
    · exact hl1 x hx
    · exact hl2 x hx
  · simp only [Sl.v, Value.ownBlock, Option.some.injEq] at hb
    omega
/-- append to a row that may have been cut: a row again in its place -/
theorem gen_appc {g : Value → World → Prop} {x y : Operand} (hop : o.op = .call { callee := .builtin .append, args := #[x, y], argTypes := #[t, t] }) (h : Hp S w0 w rs) (hj : rs[j]? = some (cutR e sz enc s)) (hE : ElT P t e sz bytes) (hx : ρ x = s.v) (s2 : Sl α) (hy : ρ y = s2.v) (h2 : SlAt w.heap.size w enc sz s2) (hl2 : ∀ x ∈ s2.l, (enc x).length = sz) (h1 : ∀ x ∈ s2.l, ∀ v ∈ enc x, v.oneCell' = true) (hn2 : s2.l ≠ [])
    (hb : (s.l.length + s2.l.length) * bytes ≤ 140737488355328) (hn : s.l.length + s2.l.length ≤ maxLen)
    (hk : ∀ A' c' w', Hp S w0 w' (rs.set j (cutR e sz enc ⟨A', c', s.l ++ s2.l⟩)) → g (.slice A' (s.l ++ s2.l).length c') w') : Gen P ρ o w g := by
  have hjl := (List.getElem?_eq_some_iff.1 hj).1
  rcases h.get hj with hr | hc
  · have hp := h.toRow hj hr
    refine gen_app hop hp j (by rw [List.getElem?_set_self hjl]) hE hx s2 hy h2 hl2 h1 hb hn fun A' c' w' hp2 => hk A' c' w' ?_
    have hp3 := hp2.toCut (j := j) (by rw [List.set_set, List.getElem?_set_self hjl])
    rwa [List.set_set, List.set_set] at hp3
  · have hat := cutOk_at hc
    obtain ⟨b, cur, fz, hA, -, hl1, hcc, -, -⟩ := hc
    obtain ⟨A', c', w', hrun, h3, h4, h5⟩ := run_appc hE o.type hA hat h2 hl1 hl2 hn2 hcc hb hn
    exact gen_v (by simp only [execOp, hop, resolve, invoke, builtin, Sem.run_bind, Sem.run_pure, Result.andThen_ok, List.map_toArray, List.map_cons, List.map_nil, hx, hy, hrun]) (hk A' c' w' (h.mut hj h4.of0 (.inl h3) fun b hb => .inr (h5 b hb)))
end
end Go.Proofs.YteabebmlclgakaaGreat
/- SeenI: an index of package seen as resources; notes and strikes in its indexes. -/
namespace Go.Proofs.YteabebmlclgakaaGreat
set_option linter.unusedSimpArgs false
set_option linter.unusedVariables false
open Go.RowKit
set_option maxRecDepth 100000
set_option maxHeartbeats 2000000
theorem inotIP {w0 : World} {b m : Nat} {l : List (Id × Sl Plc)} {n : Int} (h : (star (iRsIP b m l n)).ok w0) (k : Id) (v : Plc) (hn : (idx l k).l.length ≤ 100000) (hn2 : -1000000 ≤ n ∧ n ≤ 1000000) : Calls Tryz.prog 112 #[ptr b, Id.v k, Plc.v v] w0 fun e w' =>
    ∃ q, e = .returned (.bool q) ∧ ∃ l' n', n ≤ n' ∧ n' ≤ n + 1 ∧ (∀ x, (idx l' x).l = if x = k ∧ v ∉ (idx l k).l then (idx l k).l ++ [v] else (idx l x).l) ∧ Mut (star (iRsIP b m l n)) (star (iRsIP b m l' n')) w0 w' := by
  refine (inoteIP h k v hn hn2).mono fun e w' hh => ?_
  rcases hh with ⟨hv, rfl, hc⟩ | ⟨hv, rfl, s', hs', hm⟩
  · exact ⟨_, rfl, l, n, by omega, by omega, fun x => by rw [if_neg fun hh => hh.2 hv], Mut.of0 h hc⟩
  · refine ⟨_, rfl, mput l k s', n + 1, by omega, by omega, fun x => ?_, hm⟩
    rw [idx_mput]
    by_cases hx : x = k
    · rw [if_pos hx, if_pos ⟨hx, hv⟩]; exact hs'
    · rw [if_neg hx, if_neg fun hh => hx hh.1]
theorem inotHI {w0 : World} {b m : Nat} {l : List (Hint × Sl Id)} {n : Int} (h : (star (iRsHI b m l n)).ok w0) (k : Hint) (v : Id) (hn : (idx l k).l.length ≤ 100000) (hn2 : -1000000 ≤ n ∧ n ≤ 1000000) : Calls Tryz.prog 113 #[ptr b, Hint.v k, Id.v v] w0 fun e w' =>
    ∃ q, e = .returned (.bool q) ∧ ∃ l' n', n ≤ n' ∧ n' ≤ n + 1 ∧ (∀ x, (idx l' x).l = if x = k ∧ v ∉ (idx l k).l then (idx l k).l ++ [v] else (idx l x).l) ∧ Mut (star (iRsHI b m l n)) (star (iRsHI b m l' n')) w0 w' := by
  refine (inoteHI h k v hn hn2).mono fun e w' hh => ?_
  rcases hh with ⟨hv, rfl, hc⟩ | ⟨hv, rfl, s', hs', hm⟩
  · exact ⟨_, rfl, l, n, by omega, by omega, fun x => by rw [if_neg fun hh => hh.2 hv], Mut.of0 h hc⟩
  · refine ⟨_, rfl, mput l k s', n + 1, by omega, by omega, fun x => ?_, hm⟩
    rw [idx_mput]
    by_cases hx : x = k
    · rw [if_pos hx, if_pos ⟨hx, hv⟩]; exact hs'
    · rw [if_neg hx, if_neg fun hh => hx hh.1]
abbrev snRs (b : Nat) (X : Snx) : List Res := [cel b 168 X.c.toArray, cutR 54 65 Blk.c X.bs, star (iRsIP X.bw X.mw X.lw X.nw), star (iRsHI X.bh X.mh X.lh X.nh)]
theorem snAt {S : Nat → Prop} {w0 w : World} {rs : List Res} {b : Nat} {X : Snx} (h : Hp S w0 w rs) (hs : (snRs b X).Sublist rs) : SnAt w b X := by
  have h2 := h.sub hs
  exact ⟨h2.cel_get (j := 0) rfl, idxAt (h2.get (j := 2) rfl), idxAt (h2.get (j := 3) rfl), h2.cutAt (j := 1) rfl⟩
end Go.Proofs.YteabebmlclgakaaGreat
/- Seen1: a block's transactions are struck out. -/
namespace Go.Proofs.YteabebmlclgakaaGreat
set_option linter.unusedSimpArgs false
set_option linter.unusedVariables false
open Go.RowKit
set_option maxRecDepth 100000
set_option maxHeartbeats 2000000
/-- what is left of an id's places -/
def stkE (X : Snx) (ht : UInt32) (t : List Id) (x : Id) : List Plc := (idx X.lw x).l.erase ⟨ht, ((t.idxOf x : Nat) : Int)⟩
/-- behind i strikes -/
structure StkI (X : Snx) (ht : UInt32) (t : List Id) (i : Nat) (lw : List (Id × Sl Plc)) (nw : Int) (lh : List (Hint × Sl Id)) (nh : Int) : Prop where
  w : ∀ x, (idx lw x).l = if x ∈ t.take i then stkE X ht t x else (idx X.lw x).l
  h : ∀ k, (idx lh k).l = (idx X.lh k).l.filter fun y => !(decide (y ∈ t.take i) && (stkE X ht t y).isEmpty)
  nw1 : X.nw - i ≤ nw
  nw2 : nw ≤ X.nw
  nh1 : X.nh - i ≤ nh
  nh2 : nh ≤ X.nh
theorem not_take {α : Type} {l : List α} {i : Nat} {x : α} (hd : l.Nodup) (hx : l[i]? = some x) : x ∉ l.take i := fun hm => by
  have h1 : l = l.take i ++ l.drop i := (List.take_append_drop i l).symm
  rw [h1] at hd
  have h2 := (List.nodup_append.1 hd).2.2 x hm
  have h3 : x ∈ l.drop i := by
    refine List.mem_of_getElem? (i := 0) ?_
    rw [List.getElem?_drop]
    exact hx
  exact h2 x h3 rfl
theorem mem_take1 {α : Type} {l : List α} {i : Nat} {x y : α} (hx : l[i]? = some x) : y ∈ l.take (i + 1) ↔ y ∈ l.take i ∨ y = x := by
  rw [List.take_add_one, hx]
  simp
theorem idxOf_nd {α : Type} [BEq α] [LawfulBEq α] {x : α} {l : List α} {i : Nat} (hd : l.Nodup) (hx : l[i]? = some x) : l.idxOf x = i := idxOf_at hx fun y hy e => not_take hd hx (e ▸ hy)
theorem stk_w {X : Snx} {ht : UInt32} {t : List Id} {i : Nat} {lw lw' : List (Id × Sl Plc)} {x : Id} (hd : t.Nodup) (hx : t[i]? = some x) (hw : ∀ x, (idx lw x).l = if x ∈ t.take i then stkE X ht t x else (idx X.lw x).l) (h' : ∀ y, (idx lw' y).l = if y = x then (idx lw x).l.erase ⟨ht, (i : Int)⟩ else (idx lw y).l) :
    ∀ y, (idx lw' y).l = if y ∈ t.take (i + 1) then stkE X ht t y else (idx X.lw y).l := fun y => by
  rw [h' y]
  by_cases hy : y = x
  · subst hy
    rw [if_pos rfl, if_pos ((mem_take1 hx).2 (.inr rfl)), hw, if_neg (not_take hd hx)]
    unfold stkE
    rw [idxOf_nd hd hx]
  · rw [if_neg hy, hw]
    by_cases hm : y ∈ t.take i
    · rw [if_pos hm, if_pos ((mem_take1 hx).2 (.inl hm))]
    · rw [if_neg hm, if_neg fun h => ((mem_take1 hx).1 h).elim hm hy]
theorem stk_h0 {X : Snx} {ht : UInt32} {t : List Id} {i : Nat} {x : Id} {k : Hint} (hx : t[i]? = some x) (he : (stkE X ht t x).isEmpty = false) : (idx X.lh k).l.filter (fun y => !(decide (y ∈ t.take (i + 1)) && (stkE X ht t y).isEmpty)) = (idx X.lh k).l.filter (fun y => !(decide (y ∈ t.take i) && (stkE X ht t y).isEmpty)) := by
  apply List.filter_congr
  intro y _
  by_cases hy : y = x
  · subst hy; rw [he, Bool.and_false, Bool.and_false]
  · have : decide (y ∈ t.take (i + 1)) = decide (y ∈ t.take i) := by
      rw [decide_eq_decide, mem_take1 hx]
      simp [hy]
    rw [this]
theorem stk_h1 {X : Snx} {ht : UInt32} {t : List Id} {i : Nat} {x : Id} {lh lh' : List (Hint × Sl Id)} (hx : t[i]? = some x) (he : (stkE X ht t x).isEmpty = true) (hnd : ∀ k, (idx X.lh k).l.Nodup) (hk : ∀ k y, y ∈ (idx X.lh k).l → hintOf y = k)
    (hh : ∀ k, (idx lh k).l = (idx X.lh k).l.filter fun y => !(decide (y ∈ t.take i) && (stkE X ht t y).isEmpty)) (h' : ∀ k, (idx lh' k).l = if k = hintOf x then (idx lh (hintOf x)).l.erase x else (idx lh k).l) (k : Hint) :
    (idx lh' k).l = (idx X.lh k).l.filter fun y => !(decide (y ∈ t.take (i + 1)) && (stkE X ht t y).isEmpty) := by
  have e : ∀ y, (!(decide (y ∈ t.take (i + 1)) && (stkE X ht t y).isEmpty)) = ((y != x) && !(decide (y ∈ t.take i) && (stkE X ht t y).isEmpty)) := fun y => by
    by_cases hy : y = x
    · subst hy
      have : decide (y ∈ t.take (i + 1)) = true := decide_eq_true ((mem_take1 hx).2 (.inr rfl))
      rw [this, he]
      simp
    · have : decide (y ∈ t.take (i + 1)) = decide (y ∈ t.take i) := by
        rw [decide_eq_decide, mem_take1 hx]
        simp [hy]
      have h2 : (y != x) = true := by simpa using hy
      rw [this, h2, Bool.true_and]
  simp only [e]
  rw [← List.filter_filter, h']
  by_cases hkx : k = hintOf x
  · subst hkx
    rw [if_pos rfl, hh, List.Nodup.erase_eq_filter ((hnd _).filter _)]
  · rw [if_neg hkx, hh]
    symm
    apply List.filter_eq_self.2
    intro y hy
    have hy2 := (List.mem_filter.1 hy).1
    have : y ≠ x := fun e => hkx (by rw [← hk k y hy2, e])
    simpa using this
end Go.Proofs.YteabebmlclgakaaGreat
/- Rdx: readings: an address against nil, a part of a slice, bools apart. No condition. -/
namespace Go.Proofs.YteabebmlclgakaaGreat
set_option linter.unusedSimpArgs false
set_option linter.unusedVariables false
open Go.RowKit
set_option maxRecDepth 100000
set_option maxHeartbeats 2000000
theorem rd_ptrn {P : Program} {ρ : Operand → Value} {o : Oper} {w : World} {g : Value → Prop} {t t2 e : TypeId} {x y : Operand} (hop : o.op = .binOp .eql t x y t2) {a : Addr} (hx : ρ x = .pointer (some a)) (hy : ρ y = .pointer none) (ht : P.underlying t = some (.pointer e)) (hk : g (.bool false)) : Rd P ρ o w g := by
  refine ⟨_, fun w' _ => ?_, hk⟩
  have hg : eqGuard .eql t x y (ρ x) (ρ y) = pure () := by rw [hx]; exact eqGuard_at_pointer ..
  have h' := (run_eql_of (P := P) (w := w') (t := t) (eqIn_ptr 9999 ht (some a)) (fun op => by cases op <;> rfl)).1
  rw [hx, hy] at hg
  simp only [execOp, hop, hx, hy, hg, Sem.run_bind, Sem.run_pure, Result.andThen_ok, h']
  rfl
theorem rd_cutbb {α : Type} {P : Program} {w : World} {ρ : Operand → Value} {o : Oper} {g : Value → Prop} {t e : TypeId} {sz bytes : Nat} {x lo hi : Operand} (hop : o.op = .slice t x (some lo) (some hi) none) (hE : ElT P t e sz bytes) (s : Sl α) (hx : ρ x = s.v) (hc : s.l.length ≤ s.c) {k k' : IntKind} {m m' : Int} (hl : ρ lo = .int k m) (hh : ρ hi = .int k' m')
    {l h : Nat} (hm : m = l) (hm' : m' = h) (h1 : l ≤ h) (h2 : h ≤ s.l.length) (hk : g (s.cut sz l h).v) : Rd P ρ o w g := by
  subst hm hm'
  obtain ⟨ht, i, z, hi', _, hs, _⟩ := hE
  exact ⟨_, fun w' _ => run_cut hop ht ⟨i, hi', hs⟩ s hx hc ⟨k, hl⟩ ⟨k', hh⟩ h1 h2, hk⟩
theorem rd_bneq {P : Program} {w : World} {ρ : Operand → Value} {o : Oper} {g : Value → Prop} {t t2 : TypeId} {x y : Operand} (hop : o.op = .binOp .neq t x y t2) {a b : Bool} (hx : ρ x = .bool a) (hy : ρ y = .bool b) (ht : P.underlying t = some .bool) (hk : g (.bool (a != b))) : Rd P ρ o w g := by
  refine rd_bin hop (by rw [hx, hy]; simp [eqGuard]) (fun w' => ?_) hk
  rw [hx, hy]
  exact (run_eql_of (P := P) (w := w') (t := t) (x := .bool a) (y := .bool b) (b := a == b) (eqIn_bool 9999 ht a b) (fun op => by cases op <;> rfl)).2
theorem ge_0 (i : Nat) : (true != decide ((i : Int) ≥ 0)) = false := by
  rw [decide_eq_true (Int.natCast_nonneg i)]
  rfl
theorem ge_1 (i : Nat) : decide ((i : Int) ≥ 0) = true := decide_eq_true (Int.natCast_nonneg i)
end Go.Proofs.YteabebmlclgakaaGreat
/- Seen2: an index of package seen: Pop, Shift. -/
namespace Go.Proofs.YteabebmlclgakaaGreat
set_option linter.unusedSimpArgs false
set_option linter.unusedVariables false
open Go.RowKit
set_option maxRecDepth 100000
set_option maxHeartbeats 2000000
theorem el_blkS : ElT Tryz.prog 26 54 65 88 := elt_of (z := Blk.v ⟨Id.z, Id.z, Sl.nil⟩) Tryz.underlying26 (by kernel_rfl) rfl (by omega)
theorem SlAt.rowOf {α : Type} {B : Nat} {w : World} {enc : α → List Value} {sz b o : Nat} {s : Sl α} (h : SlAt B w enc sz s) (hA : s.A = some ⟨b, o, none⟩) (hne : s.l ≠ []) : RowAt w enc sz b o s.l := by
  obtain ⟨b2, o2, h2, _, h4⟩ := h.row hne
  rw [hA] at h2
  cases h2
  exact h4
theorem blk_oneS {l : List Blk} : ∀ x ∈ l, ∀ u ∈ Blk.c x, u.oneCell' = true := fun x _ u hu => by
  have h1 : Blk.c x = x.hash.c ++ (x.parent.c ++ [x.tx.v]) := rfl
  rw [h1] at hu
  rcases List.mem_append.1 hu with hu | hu
  · exact idL_one (l := [x.hash]) x.hash (by simp) u hu
  rcases List.mem_append.1 hu with hu | hu
  · exact idL_one (l := [x.parent]) x.parent (by simp) u hu
  · simp at hu; subst hu; rfl
/-- s[:h:h] -/
theorem gen_cuth3 {α : Type} {P : Program} {w : World} {ρ : Operand → Value} {o : Oper} {g : Value → World → Prop} {t e : TypeId} {sz bytes : Nat} {x hi mx : Operand} (hop : o.op = .slice t x none (some hi) (some mx)) (hE : ElT P t e sz bytes) (s : Sl α) (hx : ρ x = s.v) (hc : s.l.length ≤ s.c) {kh km : IntKind} {zh zm : Int} (hh : ρ hi = .int kh zh) (hm : ρ mx = .int km zm) {k : Nat} (eh : zh = k) (em : zm = k) (hk1 : k ≤ s.l.length)
    (hk : g (Sl.v (α := α) ⟨s.A, k, s.l.take k⟩) w) : Gen P ρ o w g := by
  subst eh em
  obtain ⟨ht, i, z, hi', _, hs, _⟩ := hE
  have hv : Sl.v (α := α) ⟨s.A, k, s.l.take k⟩ = .slice s.A k k := by
    rw [Sl.v]
    show Value.slice s.A (s.l.take k).length k = _
    rw [List.length_take, Nat.min_eq_left hk1]
  rw [hv] at hk
  refine gen_v (v := .slice s.A k k) (w' := w) ?_ hk
  have b1 : (0 : Int) ≤ (k : Int) ∧ (k : Int) ≤ (s.c : Int) := by omega
  have b2 : (0 : Int) ≤ (k : Int) ∧ (k : Int) ≤ (k : Int) := by omega
  simp only [execOp, hop, hx, Sl.v, Option.map_some, Option.map_none, hh, hm, Instr.sliceAt, Instr.slice, Sem.run_bind, run_underlying ht, Result.andThen_ok, Instr.sliceBounds, Instr.sliceBound, asIntOf, Sem.run_pure, if_pos b1, if_pos b2, Int.toNat_natCast, Option.isSome_some, if_true, sizeOf, typeInfo, hi', hs]
  cases hA : s.A <;> simp [hi', Sem.run, hs, add_plain] <;> (intros; simp [Addr.add])
theorem ar_inc {x : UInt32} {f : Int → Prop} (h : f ((x + 1).toNat : Int)) : Ar .u32 ((x.toNat : Int) + 1) f :=
  ⟨_, (by have h1 := wrap_u32 (x.toNat + 1); rw [show UInt32.ofNat (x.toNat + 1) = x + 1 from UInt32.toNat_inj.1 (by simp [UInt32.toNat_add])] at h1; exact h1), h⟩
end Go.Proofs.YteabebmlclgakaaGreat
