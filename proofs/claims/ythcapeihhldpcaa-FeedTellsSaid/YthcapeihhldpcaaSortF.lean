/- SortF: rows of its own under the library's sort by a function (the kit's contract of slices.SortFunc, laid at resources). No condition. -/
import Derived.Test.YthcapeihhldpcaaSep
import Derived.Test.YthcapeihhldpcaaSlice
import Derived.Shelf.SlSortCmp.NoneTotal
namespace Go.Proofs.Ythcapeihhldpcaa
set_option linter.unusedSimpArgs false
set_option linter.unusedVariables false
open Go.RowKit Go.Shelf Go.Lib
set_option maxRecDepth 100000
set_option maxHeartbeats 2000000

/-- a world in which nothing that was there changed is the world with draws, grown -/
theorem chg_grow {w w' : World} (h : Chg N0 w w') : ∃ q os', w' = Sort.grow (w.drewN q) os' := by
  refine ⟨w'.drawn - w.drawn, w'.heap.extract w.heap.size w'.heap.size, ?_⟩
  obtain ⟨heap, tape, drawn, os, output⟩ := w
  obtain ⟨heap', tape', drawn', os', output'⟩ := w'
  obtain ⟨h1, h2, h3, h4, h5, h6⟩ := h
  dsimp only at h1 h2 h3 h4 h5 h6
  subst h1 h2 h3
  have e1 : drawn' = drawn + (drawn' - drawn) := by omega
  have e2 : heap' = heap ++ heap'.extract heap.size heap'.size := by
    apply Array.ext_getElem?
    intro i
    rcases Nat.lt_or_ge i heap.size with hi | hi
    · rw [Array.getElem?_append_left hi]
      exact h5 i hi fun hh => hh
    · rw [Array.getElem?_append_right hi, Array.getElem?_extract]
      by_cases hl : i < heap'.size
      · rw [if_pos (by omega)]
        congr 1
        omega
      · rw [if_neg (by omega), Array.getElem?_eq_none (by omega)]
  simp only [Sort.grow, World.drewN]
  rw [← e1, ← e2]
section
variable {α : Type} [Inhabited α] {enc : α → List Value} {sz : Nat} {e : TypeId} {s : Sl α} {w : World} {b : Nat}
theorem flatK_list (hk : ∀ x, (enc x).length = sz) (d : Array α) : (Sort.flatK enc sz d).toList = d.toList.flatMap enc := by
  have hl : (d.toList.flatMap enc).length = d.size * sz := by rw [flat_len (fun x _ => hk x), Array.length_toList]
  apply List.ext_getElem?
  intro t
  rcases Nat.lt_or_ge t (d.size * sz) with ht | ht
  · have h0 : 0 < sz := Nat.pos_of_ne_zero fun h => by subst h; simp at ht
    have hi : t / sz < d.size := Nat.div_lt_of_lt_mul (by rw [Nat.mul_comm]; exact ht)
    have hx : d.toList[t / sz]? = some d[t / sz]! := by rw [Array.getElem?_toList, Array.getElem?_eq_getElem hi, getElem!_pos d _ hi]
    have hm : t % sz < (enc d[t / sz]!).length := by rw [hk]; exact Nat.mod_lt _ h0
    have h1 := flat_at (l := d.toList) (fun x _ => hk x) _ _ hx (t % sz) _ (List.getElem?_eq_getElem hm)
    rw [show t / sz * sz + t % sz = t from by rw [Nat.mul_comm]; exact Nat.div_add_mod t sz] at h1
    have hts : t < (Sort.flatK enc sz d).size := by rw [Sort.size_flatK]; exact ht
    rw [h1, Array.getElem?_toList, Array.getElem?_eq_getElem hts, ← getElem!_pos (Sort.flatK enc sz d) t hts, Sort.get_flatK _ _ _ _ ht]
    rw [getElem!_pos (enc d[t / sz]!) (t % sz) hm]
  · rw [List.getElem?_eq_none (show (Sort.flatK enc sz d).toList.length ≤ t by rw [Array.length_toList, Sort.size_flatK]; exact ht), List.getElem?_eq_none (show (d.toList.flatMap enc).length ≤ t by rw [hl]; exact ht)]
omit [Inhabited α] in
theorem own_heap (h : (rowR e sz enc s).ok w) (hA : s.A = some ⟨b, 0, none⟩) : ∃ cap cur, s.c = cap ∧ w.heap[b]? = some (.cells cur e (0, 0)) ∧ s.l.length ≤ cap ∧ cap ≤ maxLen ∧ cur.size = cap * sz ∧ cur.toList.take (s.l.length * sz) = s.l.flatMap enc := by
  rcases (rowR_ok.1 h).1.2 with ⟨h1, _⟩ | ⟨g, cap, cur, h1, _, h2, h3⟩
  · injection h1 with h1
    rw [hA] at h1
    cases h1
  · injection h1 with h1 _ h4
    rw [hA] at h1
    cases h1
    exact ⟨cap, cur, h4, h2, h3⟩
theorem holdsK_own (h : (rowR e sz enc s).ok w) (hk : ∀ x, (enc x).length = sz) (hA : s.A = some ⟨b, 0, none⟩) : Sort.HoldsK enc sz w b 0 s.l.toArray := by
  obtain ⟨cap, cur, _, h2, h3, h4, h5, h6⟩ := own_heap h hA
  intro t ht
  have hf : (Sort.flatK enc sz s.l.toArray).toList[t]? = some (Sort.flatK enc sz s.l.toArray)[t]! := by rw [Array.getElem?_toList, Array.getElem?_eq_getElem ht, getElem!_pos _ t ht]
  rw [flatK_list hk, List.toList_toArray, ← h6] at hf
  rw [Sort.size_flatK, List.size_toArray] at ht
  rw [List.getElem?_take_of_lt ht, Array.getElem?_toList] at hf
  constructor
  · simp only [World.cell?, h2, Nat.zero_add, hf]
    rfl
  · simp [World.frozen?, h2]
theorem sorted_mut (h : (rowR e sz enc s).ok w) (hk : ∀ x, (enc x).length = sz) (hA : s.A = some ⟨b, 0, none⟩) (d' : Array α) (hs : d'.size = s.l.length) (n : Nat) (os : Array Obj) :
    Mut (rowR e sz enc s) (rowR e sz enc ⟨s.A, s.c, d'.toList⟩) w (sortWorldK enc sz w b 0 n d' os) := by
  obtain ⟨cap, cur, h1, h2, h3, h4, h5, h6⟩ := own_heap h hA
  have hb : b < w.heap.size := heap_lt h2
  have hheap : ∀ k, k < w.heap.size → (sortWorldK enc sz w b 0 n d' os).heap[k]? = (w.heap.modify b (Sort.onCells (Sort.putCells id 0 (Sort.flatK enc sz d'))))[k]? := fun k hk' => by
    unfold sortWorldK
    rw [Sort.heap_grow_old _ _ (by show k < (Sort.putRow id _ _ _ _).heap.size; rw [Sort.size_putRow]; exact hk')]
    rfl
  refine ⟨⟨rfl, rfl, rfl, ?_, fun k hk' hn => ?_, Nat.le_add_right _ _⟩, ?_, fun c hc => .inl (rowR_dom.2 ?_)⟩
  · unfold sortWorldK
    rw [Sort.size_grow]
    show w.heap.size ≤ (Sort.putRow id _ _ _ _).heap.size + _
    rw [Sort.size_putRow]
    exact Nat.le_add_right _ _
  · rw [hheap k hk', Array.getElem?_modify, if_neg]
    rintro rfl
    exact hn (rowR_dom.2 (by rw [Sl.v, hA]; rfl))
  · have hnew : (sortWorldK enc sz w b 0 n d' os).heap[b]? = some (.cells (Sort.putCells id 0 (Sort.flatK enc sz d') cur) e (0, 0)) := by
      rw [hheap b hb, Array.getElem?_modify, if_pos rfl, h2]
      rfl
    have hfl := flatK_list hk d'
    have hsz : (Sort.flatK enc sz d').size = s.l.length * sz := by rw [Sort.size_flatK, hs]
    have hcap : s.l.length * sz ≤ cap * sz := Nat.mul_le_mul_right _ h3
    refine rowR_ok.2 ⟨⟨?_, .inr ⟨b, cap, _, ?_, Nat.zero_le _, hnew, ?_, h4, ?_, ?_⟩⟩, fun x _ => hk x⟩
    · rw [flat_len (fun x _ => hk x)]
    · rw [Sl.v, hA, h1]
    · rw [Array.length_toList, hs]; exact h3
    · rw [Sort.putCells, Array.size_mapIdx]; exact h5
    · rw [Array.length_toList, hs, ← hfl]
      apply List.ext_getElem?
      intro t
      rcases Nat.lt_or_ge t (s.l.length * sz) with ht | ht
      · rw [List.getElem?_take_of_lt ht, Array.getElem?_toList, Array.getElem?_toList, Sort.putCells, Array.getElem?_mapIdx, Array.getElem?_eq_getElem (show t < cur.size by omega), Array.getElem?_eq_getElem (show t < (Sort.flatK enc sz d').size by omega)]
        rw [Option.map_some, if_pos ⟨Nat.zero_le _, by omega⟩, Nat.sub_zero, getElem!_pos _ t (by omega)]
        rfl
      · rw [List.getElem?_eq_none (by rw [List.length_take]; omega), List.getElem?_eq_none (by rw [Array.length_toList]; omega)]
  · have h7 := rowR_dom.1 hc
    rw [Sl.v] at h7 ⊢
    rw [hA] at h7 ⊢
    exact h7
theorem sorted_pair {lt : α → α → Bool} {d : Array α} (h : Sort.SortedIn lt 0 d.size d) : d.toList.Pairwise fun x y => lt y x = false := by
  rw [List.pairwise_iff_getElem]
  intro i j hi hj hij
  have := h i j (Nat.zero_le _) hij (by simpa using hj)
  rw [getElem!_pos d i (by simpa using hi), getElem!_pos d j (by simpa using hj)] at this
  simpa using this
variable {P : Program} {ρ : Ren}
/-- slices.SortFunc over a row of the call's own -/
theorem sortf_any (L : SlLaysF0.n6 P ρ) (aE : ∀ w, (isAgg (ρ.t 24)).run P w = .ok true w) (zE : ∀ w, (Go.sizeOf (ρ.t 24)).run P w = .ok sz w) (hk : ∀ x, (enc x).length = sz) (h1 : ∀ x, ∀ v ∈ enc x, v.oneCell' = true) (cf : α → α → Int) (hO : Sort.SWO (ltOf cf)) (g : Nat) (cb : Array Value)
    (eg : ∀ args w, (callFunc g args).run P w = .ok (.enter g args) w) (h : (rowR e sz enc s).ok w) (hm : s.l.length < 4611686018427387904)
    (hcmp : ∀ (x y : α) (W : World), Chg (rowR e sz enc s).dom w W → Calls P g (#[.agg (enc x).toArray, .agg (enc y).toArray] ++ cb) W fun e w' => e = .returned (.int .i64 (cf x y)) ∧ ∃ q os', w' = Sort.grow (W.drewN q) os') :
    Calls P (ρ.f 6) #[s.v, .func (.func g) #[] cb] w fun e' w' => e' = .returned (.tuple #[]) ∧ ∃ l' : List α, l'.Perm s.l ∧ (l'.Pairwise fun x y => ltOf cf y x = false) ∧ Mut (rowR e sz enc s) (rowR e sz enc ⟨s.A, s.c, l'⟩) w w' := by
  by_cases hA : s.A = none
  · have hl : s.l = [] := by
      rcases (rowR_ok.1 h).1.2 with ⟨_, h1⟩ | ⟨g, cap, cur, h1, _⟩
      · exact List.eq_nil_of_length_eq_zero h1
      · injection h1 with h1
        rw [hA] at h1
        cases h1
    have e1 : s.v = .slice none 0 s.c := by rw [Sl.v, hA, hl]; rfl
    rw [e1]
    refine (AnyF.slices_SortFunc_none L none s.c _ w).mono ?_
    rintro e' w' ⟨rfl, rfl⟩
    refine ⟨rfl, s.l, .refl _, by rw [hl]; exact .nil, Mut.of0 h (Chg.refl _ _)⟩
  · obtain ⟨b, hA⟩ : ∃ b, s.A = some ⟨b, 0, none⟩ := by
      rcases (rowR_ok.1 h).1.2 with ⟨h1, _⟩ | ⟨g, cap, cur, h1, _⟩
      · injection h1 with h1
        exact (hA h1).elim
      · injection h1 with h1
        exact ⟨g, h1⟩
    obtain ⟨cap, cur, _, h2, _⟩ := own_heap h hA
    have e1 : s.v = .slice (some ⟨b, 0, none⟩) s.l.toArray.size s.c := by rw [Sl.v, hA]; rfl
    rw [e1]
    refine (AnyQ.slices_SortFunc L sz aE zE enc hk h1 cf hO g cb b 0 s.c s.l.toArray w eg (fun m os dk hd x y => hcmp x y _ (sorted_mut h hk hA dk (by rw [hd]; rfl) m os).chg) (holdsK_own h hk hA) (heap_lt h2) hm).mono ?_
    rintro e' w' ⟨rfl, d', n, os, hp, hs, rfl⟩
    have hsz : d'.size = s.l.toArray.size := hp.1
    refine ⟨rfl, d'.toList, ?_, ?_, sorted_mut h hk hA d' (by rw [hsz]; rfl) n os⟩
    · have h3 := hp.2.2
      rw [Array.extract_eq_self_of_le (by rw [hsz]; exact Nat.le_refl _), Array.extract_eq_self_of_le (Nat.le_refl _)] at h3
      exact h3
    · rw [← hsz] at hs
      exact sorted_pair hs
/-- the same, by a comparing function that changes nothing that was there -/
theorem sortf_chg (L : SlLaysF0.n6 P ρ) (aE : ∀ w, (isAgg (ρ.t 24)).run P w = .ok true w) (zE : ∀ w, (Go.sizeOf (ρ.t 24)).run P w = .ok sz w) (hk : ∀ x, (enc x).length = sz) (h1 : ∀ x, ∀ v ∈ enc x, v.oneCell' = true) (cf : α → α → Int) (hO : Sort.SWO (ltOf cf)) (g : Nat) (cb : Array Value)
    (eg : ∀ args w, (callFunc g args).run P w = .ok (.enter g args) w) (h : (rowR e sz enc s).ok w) (hm : s.l.length < 4611686018427387904)
    (hcmp : ∀ (x y : α) (W : World), Chg (rowR e sz enc s).dom w W → Calls P g (#[.agg (enc x).toArray, .agg (enc y).toArray] ++ cb) W fun e w' => e = .returned (.int .i64 (cf x y)) ∧ Chg N0 W w') :
    Calls P (ρ.f 6) #[s.v, .func (.func g) #[] cb] w fun e' w' => e' = .returned (.tuple #[]) ∧ ∃ l' : List α, l'.Perm s.l ∧ (l'.Pairwise fun x y => ltOf cf y x = false) ∧ Mut (rowR e sz enc s) (rowR e sz enc ⟨s.A, s.c, l'⟩) w w' :=
  sortf_any L aE zE hk h1 cf hO g cb eg h hm fun x y W hc => (hcmp x y W hc).mono fun _ _ ⟨he, hg⟩ => ⟨he, chg_grow hg⟩
end
end Go.Proofs.Ythcapeihhldpcaa
