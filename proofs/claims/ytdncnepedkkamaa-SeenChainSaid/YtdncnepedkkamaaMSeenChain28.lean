/- MSeenChain28: SortF, Seen6. -/
import Derived.Test.YtdncnepedkkamaaMSeenChain4
import Derived.Test.YtdncnepedkkamaaMSeenChainsSlice
import Derived.Shelf.SlSortCmp.NoneTotal
import Derived.Test.YtdncnepedkkamaaMSeenChain27
import Derived.Shelf.SlGeneric
/- SortF: rows of its own under the library's sort by a function (the kit's contract of slices.SortFunc, laid at resources). No condition. -/
namespace Go.Proofs.Ytdncnepedkkamaa
set_option linter.unusedSimpArgs false
set_option linter.unusedVariables false
open Go.RowKit Go.Shelf Go.Lib
set_option maxRecDepth 100000
set_option maxHeartbeats 2000000
/-- a world in which nothing that was there changed is the world with draws, grown -/
theorem chg_grow {w w' : World} (h : Chg N0 w w') : ∃ q os', w' = Sort.grow (w.drewN q) os' := by
  refine ⟨w'.drawn - w.drawn, w'.heap.extract w.heap.size w'.heap.size, ?_⟩
  obtain ⟨heap, tape, drawn, os, output⟩ := w
  obtain ⟨heap', tape', drawn', os', output'⟩ := w'
  obtain ⟨h1, h2, h3, h4, h5, h6⟩ := h
  dsimp only at h1 h2 h3 h4 h5 h6
  subst h1 h2 h3
  have e1 : drawn' = drawn + (drawn' - drawn) := by omega
  have e2 : heap' = heap ++ heap'.extract heap.size heap'.size := by
    apply Array.ext_getElem?
    intro i
    rcases Nat.lt_or_ge i heap.size with hi | hi
    · rw [Array.getElem?_append_left hi]
      exact h5 i hi fun hh => hh
    · rw [Array.getElem?_append_right hi, Array.getElem?_extract]
      by_cases hl : i < heap'.size
      · rw [if_pos (by omega)]
        congr 1
        omega
      · rw [if_neg (by omega), Array.getElem?_eq_none (by omega)]
  simp only [Sort.grow, World.drewN]
  rw [← e1, ← e2]
section
variable {α : Type} [Inhabited α] {enc : α → List Value} {sz : Nat} {e : TypeId} {s : Sl α} {w : World} {b : Nat}
theorem flatK_list (hk : ∀ x, (enc x).length = sz) (d : Array α) : (Sort.flatK enc sz d).toList = d.toList.flatMap enc := by
  have hl : (d.toList.flatMap enc).length = d.size * sz := by rw [flat_len (fun x _ => hk x), Array.length_toList]
  apply List.ext_getElem?
  intro t
  rcases Nat.lt_or_ge t (d.size * sz) with ht | ht
  · have h0 : 0 < sz := Nat.pos_of_ne_zero fun h => by subst h; simp at ht
    have hi : t / sz < d.size := Nat.div_lt_of_lt_mul (by rw [Nat.mul_comm]; exact ht)
    have hx : d.toList[t / sz]? = some d[t / sz]! := by rw [Array.getElem?_toList, Array.getElem?_eq_getElem hi, getElem!_pos d _ hi]
    have hm : t % sz < (enc d[t / sz]!).length := by rw [hk]; exact Nat.mod_lt _ h0
    have h1 := flat_at (l := d.toList) (fun x _ => hk x) _ _ hx (t % sz) _ (List.getElem?_eq_getElem hm)
    rw [show t / sz * sz + t % sz = t from by rw [Nat.mul_comm]; exact Nat.div_add_mod t sz] at h1
    have hts : t < (Sort.flatK enc sz d).size := by rw [Sort.size_flatK]; exact ht
    rw [h1, Array.getElem?_toList, Array.getElem?_eq_getElem hts, ← getElem!_pos (Sort.flatK enc sz d) t hts, Sort.get_flatK _ _ _ _ ht]
    rw [getElem!_pos (enc d[t / sz]!) (t % sz) hm]
  · rw [List.getElem?_eq_none (show (Sort.flatK enc sz d).toList.length ≤ t by rw [Array.length_toList, Sort.size_flatK]; exact ht), List.getElem?_eq_none (show (d.toList.flatMap enc).length ≤ t by rw [hl]; exact ht)]
omit [Inhabited α] in
theorem own_heap (h : (rowR e sz enc s).ok w) (hA : s.A = some ⟨b, 0, none⟩) : ∃ cap cur, s.c = cap ∧ w.heap[b]? = some (.cells cur e (0, 0)) ∧ s.l.length ≤ cap ∧ cap ≤ maxLen ∧ cur.size = cap * sz ∧ cur.toList.take (s.l.length * sz) = s.l.flatMap enc := by
  rcases (rowR_ok.1 h).1.2 with ⟨h1, _⟩ | ⟨g, cap, cur, h1, _, h2, h3⟩
  · injection h1 with h1
    rw [hA] at h1
    cases h1
  · injection h1 with h1 _ h4
    rw [hA] at h1
    cases h1
    exact ⟨cap, cur, h4, h2, h3⟩
theorem holdsK_own (h : (rowR e sz enc s).ok w) (hk : ∀ x, (enc x).length = sz) (hA : s.A = some ⟨b, 0, none⟩) : Sort.HoldsK enc sz w b 0 s.l.toArray := by
  obtain ⟨cap, cur, _, h2, h3, h4, h5, h6⟩ := own_heap h hA
  intro t ht
  have hf : (Sort.flatK enc sz s.l.toArray).toList[t]? = some (Sort.flatK enc sz s.l.toArray)[t]! := by rw [Array.getElem?_toList, Array.getElem?_eq_getElem ht, getElem!_pos _ t ht]
  rw [flatK_list hk, List.toList_toArray, ← h6] at hf
  rw [Sort.size_flatK, List.size_toArray] at ht
  rw [List.getElem?_take_of_lt ht, Array.getElem?_toList] at hf
  constructor
  · simp only [World.cell?, h2, Nat.zero_add, hf]
    rfl
  · simp [World.frozen?, h2]
theorem sorted_mut (h : (rowR e sz enc s).ok w) (hk : ∀ x, (enc x).length = sz) (hA : s.A = some ⟨b, 0, none⟩) (d' : Array α) (hs : d'.size = s.l.length) (n : Nat) (os : Array Obj) :
    Mut (rowR e sz enc s) (rowR e sz enc ⟨s.A, s.c, d'.toList⟩) w (sortWorldK enc sz w b 0 n d' os) := by
  obtain ⟨cap, cur, h1, h2, h3, h4, h5, h6⟩ := own_heap h hA
  have hb : b < w.heap.size := heap_lt h2
  have hheap : ∀ k, k < w.heap.size → (sortWorldK enc sz w b 0 n d' os).heap[k]? = (w.heap.modify b (Sort.onCells (Sort.putCells id 0 (Sort.flatK enc sz d'))))[k]? := fun k hk' => by
    unfold sortWorldK
    rw [Sort.heap_grow_old _ _ (by show k < (Sort.putRow id _ _ _ _).heap.size; rw [Sort.size_putRow]; exact hk')]
    rfl
  refine ⟨⟨rfl, rfl, rfl, ?_, fun k hk' hn => ?_, Nat.le_add_right _ _⟩, ?_, fun c hc => .inl (rowR_dom.2 ?_)⟩
  · unfold sortWorldK
    rw [Sort.size_grow]
    show w.heap.size ≤ (Sort.putRow id _ _ _ _).heap.size + _
    rw [Sort.size_putRow]
    exact Nat.le_add_right _ _
  · rw [hheap k hk', Array.getElem?_modify, if_neg]
    rintro rfl
    exact hn (rowR_dom.2 (by rw [Sl.v, hA]; rfl))
  · have hnew : (sortWorldK enc sz w b 0 n d' os).heap[b]? = some (.cells (Sort.putCells id 0 (Sort.flatK enc sz d') cur) e (0, 0)) := by
      rw [hheap b hb, Array.getElem?_modify, if_pos rfl, h2]
      rfl
    have hfl := flatK_list hk d'
    have hsz : (Sort.flatK enc sz d').size = s.l.length * sz := by rw [Sort.size_flatK, hs]
    have hcap : s.l.length * sz ≤ cap * sz := Nat.mul_le_mul_right _ h3
    refine rowR_ok.2 ⟨⟨?_, .inr ⟨b, cap, _, ?_, Nat.zero_le _, hnew, ?_, h4, ?_, ?_⟩⟩, fun x _ => hk x⟩
    · rw [flat_len (fun x _ => hk x)]
    · rw [Sl.v, hA, h1]
    · rw [Array.length_toList, hs]; exact h3
    · rw [Sort.putCells, Array.size_mapIdx]; exact h5
    · rw [Array.length_toList, hs, ← hfl]
      apply List.ext_getElem?
      intro t
      rcases Nat.lt_or_ge t (s.l.length * sz) with ht | ht
      · rw [List.getElem?_take_of_lt ht, Array.getElem?_toList, Array.getElem?_toList, Sort.putCells, Array.getElem?_mapIdx, Array.getElem?_eq_getElem (show t < cur.size by omega), Array.getElem?_eq_getElem (show t < (Sort.flatK enc sz d').size by omega)]
        rw [Option.map_some, if_pos ⟨Nat.zero_le _, by omega⟩, Nat.sub_zero, getElem!_pos _ t (by omega)]
        rfl
      · rw [List.getElem?_eq_none (by rw [List.length_take]; omega), List.getElem?_eq_none (by rw [Array.length_toList]; omega)]
  · have h7 := rowR_dom.1 hc
    rw [Sl.v] at h7 ⊢
    rw [hA] at h7 ⊢
    exact h7
theorem sorted_pair {lt : α → α → Bool} {d : Array α} (h : Sort.SortedIn lt 0 d.size d) : d.toList.Pairwise fun x y => lt y x = false := by
  rw [List.pairwise_iff_getElem]
  intro i j hi hj hij
  have := h i j (Nat.zero_le _) hij (by simpa using hj)
  rw [getElem!_pos d i (by simpa using hi), getElem!_pos d j (by simpa using hj)] at this
  simpa using this
variable {P : Program} {ρ : Ren}
/-- slices.SortFunc over a row of the call's own -/
theorem sortf_any (L : SlLaysF0.n6 P ρ) (aE : ∀ w, (isAgg (ρ.t 24)).run P w = .ok true w) (zE : ∀ w, (Go.sizeOf (ρ.t 24)).run P w = .ok sz w) (hk : ∀ x, (enc x).length = sz) (h1 : ∀ x, ∀ v ∈ enc x, v.oneCell' = true) (cf : α → α → Int) (hO : Sort.SWO (ltOf cf)) (g : Nat) (cb : Array Value)
    (eg : ∀ args w, (callFunc g args).run P w = .ok (.enter g args) w) (h : (rowR e sz enc s).ok w) (hm : s.l.length < 4611686018427387904)
    (hcmp : ∀ (x y : α) (W : World), Chg (rowR e sz enc s).dom w W → Calls P g (#[.agg (enc x).toArray, .agg (enc y).toArray] ++ cb) W fun e w' => e = .returned (.int .i64 (cf x y)) ∧ ∃ q os', w' = Sort.grow (W.drewN q) os') :
    Calls P (ρ.f 6) #[s.v, .func (.func g) #[] cb] w fun e' w' => e' = .returned (.tuple #[]) ∧ ∃ l' : List α, l'.Perm s.l ∧ (l'.Pairwise fun x y => ltOf cf y x = false) ∧ Mut (rowR e sz enc s) (rowR e sz enc ⟨s.A, s.c, l'⟩) w w' := by
  by_cases hA : s.A = none
  · have hl : s.l = [] := by
      rcases (rowR_ok.1 h).1.2 with ⟨_, h1⟩ | ⟨g, cap, cur, h1, _⟩
      · exact List.eq_nil_of_length_eq_zero h1
      · injection h1 with h1
        rw [hA] at h1
        cases h1
    have e1 : s.v = .slice none 0 s.c := by rw [Sl.v, hA, hl]; rfl
    rw [e1]
    refine (AnyF.slices_SortFunc_none L none s.c _ w).mono ?_
    rintro e' w' ⟨rfl, rfl⟩
    refine ⟨rfl, s.l, .refl _, by rw [hl]; exact .nil, Mut.of0 h (Chg.refl _ _)⟩
  · obtain ⟨b, hA⟩ : ∃ b, s.A = some ⟨b, 0, none⟩ := by
      rcases (rowR_ok.1 h).1.2 with ⟨h1, _⟩ | ⟨g, cap, cur, h1, _⟩
      · injection h1 with h1
        exact (hA h1).elim
      · injection h1 with h1
        exact ⟨g, h1⟩
    obtain ⟨cap, cur, _, h2, _⟩ := own_heap h hA
    have e1 : s.v = .slice (some ⟨b, 0, none⟩) s.l.toArray.size s.c := by rw [Sl.v, hA]; rfl
    rw [e1]
    refine (AnyQ.slices_SortFunc L sz aE zE enc hk h1 cf hO g cb b 0 s.c s.l.toArray w eg (fun m os dk hd x y => hcmp x y _ (sorted_mut h hk hA dk (by rw [hd]; rfl) m os).chg) (holdsK_own h hk hA) (heap_lt h2) hm).mono ?_
    rintro e' w' ⟨rfl, d', n, os, hp, hs, rfl⟩
    have hsz : d'.size = s.l.toArray.size := hp.1
    refine ⟨rfl, d'.toList, ?_, ?_, sorted_mut h hk hA d' (by rw [hsz]; rfl) n os⟩
    · have h3 := hp.2.2
      rw [Array.extract_eq_self_of_le (by rw [hsz]; exact Nat.le_refl _), Array.extract_eq_self_of_le (Nat.le_refl _)] at h3
      exact h3
    · rw [← hsz] at hs
      exact sorted_pair hs
/-- the same, by a comparing function that changes nothing that was there -/
theorem sortf_chg (L : SlLaysF0.n6 P ρ) (aE : ∀ w, (isAgg (ρ.t 24)).run P w = .ok true w) (zE : ∀ w, (Go.sizeOf (ρ.t 24)).run P w = .ok sz w) (hk : ∀ x, (enc x).length = sz) (h1 : ∀ x, ∀ v ∈ enc x, v.oneCell' = true) (cf : α → α → Int) (hO : Sort.SWO (ltOf cf)) (g : Nat) (cb : Array Value)
    (eg : ∀ args w, (callFunc g args).run P w = .ok (.enter g args) w) (h : (rowR e sz enc s).ok w) (hm : s.l.length < 4611686018427387904)
    (hcmp : ∀ (x y : α) (W : World), Chg (rowR e sz enc s).dom w W → Calls P g (#[.agg (enc x).toArray, .agg (enc y).toArray] ++ cb) W fun e w' => e = .returned (.int .i64 (cf x y)) ∧ Chg N0 W w') :
    Calls P (ρ.f 6) #[s.v, .func (.func g) #[] cb] w fun e' w' => e' = .returned (.tuple #[]) ∧ ∃ l' : List α, l'.Perm s.l ∧ (l'.Pairwise fun x y => ltOf cf y x = false) ∧ Mut (rowR e sz enc s) (rowR e sz enc ⟨s.A, s.c, l'⟩) w w' :=
  sortf_any L aE zE hk h1 cf hO g cb eg h hm fun x y W hc => (hcmp x y W hc).mono fun _ _ ⟨he, hg⟩ => ⟨he, chg_grow hg⟩
end
end Go.Proofs.Ytdncnepedkkamaa
/- Seen6: an index of package seen: the ids of a hint, sorted by their first places. -/
namespace Go.Proofs.Ytdncnepedkkamaa
set_option linter.unusedSimpArgs false
set_option linter.unusedVariables false
open Go.RowKit Go.Shelf Go.Lib
set_option maxRecDepth 100000
set_option maxHeartbeats 2000000
def srtH_ren : Go.Shelf.Ren := ⟨fun | 6 => 81 | 15 => 100 | 14 => 99 | 28 => 115 | 29 => 116 | 20 => 107 | 21 => 108 | 22 => 109 | 23 => 110 | 24 => 111 | 25 => 112 | 26 => 113 | 27 => 114 | 46 => 128 | 47 => 129 | 48 => 130 | 49 => 131 | 50 => 132 | 57 => 137 | n => n, fun | 22 => 63 | 24 => 62 | 25 => 129 | 3 => 3 | 39 => 146 | 0 => 0 | 53 => 27 | 55 => 108 | 4 => 4 | 46 => 158 | 45 => 157 | 50 => 162 | 5 => 5 | 9 => 9 | 66 => 174 | 70 => 178 | 76 => 182 | 77 => 183 | n => n, fun | n => n⟩
theorem srtH : Go.Proofs.SlLaysF0.n6 Try.prog srtH_ren := {
  mixed := by kernel_rfl
  f6 := ⟨Try.f81.name, by decide, Try.func81.trans (congrArg some (by kernel_rfl))⟩
  f14 := ⟨Try.f99.name, by decide, Try.func99.trans (congrArg some (by kernel_rfl))⟩
  f15 := Try.func100.trans (congrArg some (by kernel_rfl))
  f20 := ⟨Try.f107.name, by decide, Try.func107.trans (congrArg some (by kernel_rfl))⟩
  f21 := ⟨Try.f108.name, by decide, Try.func108.trans (congrArg some (by kernel_rfl))⟩
  f22 := ⟨Try.f109.name, by decide, Try.func109.trans (congrArg some (by kernel_rfl))⟩
  f23 := ⟨Try.f110.name, by decide, Try.func110.trans (congrArg some (by kernel_rfl))⟩
  f24 := ⟨Try.f111.name, by decide, Try.func111.trans (congrArg some (by kernel_rfl))⟩
  f25 := ⟨Try.f112.name, by decide, Try.func112.trans (congrArg some (by kernel_rfl))⟩
  f26 := ⟨Try.f113.name, by decide, Try.func113.trans (congrArg some (by kernel_rfl))⟩
  f27 := ⟨Try.f114.name, by decide, Try.func114.trans (congrArg some (by kernel_rfl))⟩
  f28 := Try.func115.trans (congrArg some (by kernel_rfl))
  f29 := Try.func116.trans (congrArg some (by kernel_rfl))
  f46 := ⟨Try.f128.name, by decide, Try.func128.trans (congrArg some (by kernel_rfl))⟩
  f47 := Try.func129.trans (congrArg some (by kernel_rfl))
  f48 := Try.func130.trans (congrArg some (by kernel_rfl))
  f49 := ⟨Try.f131.name, by decide, Try.func131.trans (congrArg some (by kernel_rfl))⟩
  f50 := ⟨Try.f132.name, by decide, Try.func132.trans (congrArg some (by kernel_rfl))⟩
  f57 := ⟨Try.f137.name, by decide, Try.func137.trans (congrArg some (by kernel_rfl))⟩
  t0 := Try.underlying0
  a0 := Try.isAgg0
  z0 := Try.sizeOf0
  v0 := Try.zeroValue0
  t3 := Try.underlying3
  a3 := Try.isAgg3
  z3 := Try.sizeOf3
  v3 := Try.zeroValue3
  t4 := Try.underlying4
  a4 := Try.isAgg4
  z4 := Try.sizeOf4
  v4 := Try.zeroValue4
  t5 := Try.underlying5
  a5 := Try.isAgg5
  z5 := Try.sizeOf5
  v5 := Try.zeroValue5
  t9 := Try.underlying9
  a9 := Try.isAgg9
  z9 := Try.sizeOf9
  v9 := Try.zeroValue9
  t22 := Try.underlying63
  a22 := Try.isAgg63
  z22 := Try.sizeOf63
  v22 := Try.zeroValue63
  t25 := Try.underlying129
  a25 := Try.isAgg129
  z25 := Try.sizeOf129
  v25 := Try.zeroValue129
  t39 := Try.underlying146
  a39 := Try.isAgg146
  z39 := Try.sizeOf146
  v39 := Try.zeroValue146
  t45 := Try.underlying157
  a45 := Try.isAgg157
  z45 := Try.sizeOf157
  v45 := Try.zeroValue157
  t46 := Try.underlying158
  a46 := Try.isAgg158
  z46 := Try.sizeOf158
  v46 := Try.zeroValue158
  t50 := Try.underlying162
  a50 := Try.isAgg162
  z50 := Try.sizeOf162
  v50 := Try.zeroValue162
  t53 := Try.underlying27
  a53 := Try.isAgg27
  z53 := Try.sizeOf27
  v53 := Try.zeroValue27
  t55 := Try.underlying108
  a55 := Try.isAgg108
  z55 := Try.sizeOf108
  v55 := Try.zeroValue108
  t66 := Try.underlying174
  a66 := Try.isAgg174
  z66 := Try.sizeOf174
  v66 := Try.zeroValue174
  t70 := Try.underlying178
  a70 := Try.isAgg178
  z70 := Try.sizeOf178
  v70 := Try.zeroValue178
  t76 := Try.underlying182
  a76 := Try.isAgg182
  z76 := Try.sizeOf182
  v76 := Try.zeroValue182
  t77 := Try.underlying183
  a77 := Try.isAgg183
  z77 := Try.sizeOf183
  v77 := Try.zeroValue183 }
theorem res_extS {r r' : Res} (hd : r.dom = r'.dom) (ho : r.ok = r'.ok) : r = r' := by
  obtain ⟨d, o, _, _⟩ := r
  obtain ⟨d', o', _, _⟩ := r'
  dsimp only at hd ho
  subst hd ho
  rfl
/-- a row of some values, as a row of all -/
theorem rowR_sub {α : Type} {p : α → Prop} {e : TypeId} {sz : Nat} {enc : α → List Value} (s : Sl {y : α // p y}) : rowR e sz (fun z : {y : α // p y} => enc z.1) s = rowR e sz enc ⟨s.A, s.c, s.l.map (·.1)⟩ := by
  have hv : s.v = Sl.v (α := α) ⟨s.A, s.c, s.l.map (·.1)⟩ := by simp [Sl.v]
  have hf : s.l.flatMap (fun z => enc z.1) = (s.l.map (·.1)).flatMap enc := by rw [List.flatMap_map]
  refine res_extS (funext fun b => propext ?_) (funext fun w => propext ?_)
  · rw [rowR_dom, rowR_dom, hv]
  · rw [rowR_ok, rowR_ok, hv, hf]
    simp
def fstP (X : Snx) (y : Id) : Plc := match (idx X.lw y).l with | [] => ⟨0, 0⟩ | p :: ps => minP p ps
theorem plcLt_irrefl (x : Plc) : ¬ plcLt x x := by unfold plcLt; omega
theorem plcLt_trans {x y z : Plc} (h1 : plcLt x y) (h2 : plcLt y z) : plcLt x z := by unfold plcLt at *; omega
theorem plcLt_ntrans {x y z : Plc} (h1 : ¬ plcLt x y) (h2 : ¬ plcLt y z) : ¬ plcLt x z := by unfold plcLt at *; omega
theorem hinted1_any {w0 : World} {b b2 : Nat} {X : Snx} (h : SnAt w0 b X) (hc : w0.cell? ⟨b2, 0, none⟩ = some (ptr b)) {x y : Id} (hx : (idx X.lw x).l ≠ []) (hy : (idx X.lw y).l ≠ []) (hnx : ∀ x, (idx X.lw x).l.length ≤ 1000000) : Calls Try.prog 82 #[x.v, y.v, ptr b2] w0 fun e w' => e = .returned (i64 (aheadV (fstP X x) (fstP X y))) ∧ Chg N0 w0 w' := by
  have hp := Hp.start (S := N0) w0
  have hfs : ∀ (z : Id), (idx X.lw z).l ≠ [] → ∀ {w : World}, Chg N0 w0 w → Calls Try.prog 78 #[ptr b, z.v] w fun e w' => e = .returned (fstP X z).v ∧ Chg N0 w w' := fun z hz w hc => by
    cases hl : (idx X.lw z).l with
    | nil => exact (hz hl).elim
    | cons p ps =>
      have h1 := sfirst_any (h.keep0 hc) z (hnx z) hl
      have h2 : fstP X z = minP p ps := by unfold fstP; rw [hl]
      rw [h2]
      exact h1
  have f1 := fun {w : World} => hfs x hx (w := w)
  have f2 := fun {w : World} => hfs y hy (w := w)
  obtain ⟨P, hP⟩ : ∃ P, fstP X x = P := ⟨_, rfl⟩
  obtain ⟨Q, hQ⟩ : ∃ Q, fstP X y = Q := ⟨_, rfl⟩
  rw [hP] at f1 ⊢
  rw [hQ] at f2 ⊢
  have ha := fun w => ahead_any w P Q
  obtain ⟨v, hv⟩ : ∃ v, aheadV P Q = v := ⟨_, rfl⟩
  rw [hv] at ha ⊢
  refine calls_x (args := [_, _, _]) tabOk Try.func82 Try.ntmps82 Try.results82 rfl (Nat.le_of_ble_eq_true rfl) ?_
  ((conv => whnf); repeat' ((first | ((with_reducible refine br_id ?_); first | (with_reducible (first | refine br_t ?_ | refine br_f ?_ | refine br_not ?_)) | ((with_reducible (first | refine br_dec (fun hx => ?_) (fun hx => ?_) | refine br_eq (fun hx => ?_) (fun hx => ?_) | refine br_ne (fun hx => ?_) (fun hx => ?_) | refine br_s (fun hx => ?_) (fun hx => ?_))) <;> (try (exfalso; first | omega | exact absurd hx (by assumption) | exact absurd (by assumption) hx)))) | ((with_reducible refine ar_id ?_); first | (refine ar_i64 (by omega) ?_) | (refine ar_u32 (by omega) ?_) | (refine ar_u64 (by omega) ?_) | (refine ar_u8 (by omega) ?_)) | ((with_reducible refine cn_id ?_); first | (refine cn rfl ?_) | (refine cn (by assumption) ?_) | (refine cn (by omega) ?_) | (refine cn (Chg.refl _ _) ?_)) | ((with_reducible refine ld_id ?_); first | (apply ld_hs hp; (focus ((repeat (first | exact Has.here | apply Has.there)); done)); exact rfl) | (refine ld_of (by assumption) ?_)) | ((with_reducible refine ldn_id ?_); first | (apply lda_hs hp; (focus ((repeat (first | exact Has.here | apply Has.there)); done)); exact rfl) | (apply ldn_hs hp; (focus ((repeat (first | exact Has.here | apply Has.there)); done)); exact rfl; exact rfl)) | ((with_reducible refine al_id ?_); first | (refine al_cel hp ?_; clear hp; intro bb w hp)) | ((with_reducible refine st_id ?_); first | (apply sta_hs hp; (focus ((repeat (first | exact Has.here | apply Has.there)); done)); exact rfl; exact rfl; clear hp; intro w hp; (try dsimp only [List.set] at hp)) | (apply st_hs hp; (focus ((repeat (first | exact Has.here | apply Has.there)); done)); exact rfl; exact rfl; clear hp; intro w hp; (try dsimp only [List.set] at hp))) | ((with_reducible refine gen_id ?_); first | (apply gen_build; exact rfl; exact rfl) | (apply gen_len; exact rfl; exact rfl; assumption) | (apply gen_min; exact rfl; exact rfl; exact rfl) | (apply gen_max; exact rfl; exact rfl; exact rfl) | (apply gen_ix; exact rfl; exact rfl; exact rfl; exact rfl; omega) | (apply gen_ixa; exact rfl; exact rfl; exact rfl; exact rfl; omega)) | ((with_reducible refine fk_id ?_); first | (refine fk_mk ?_ ?_)) | ((with_reducible refine rd_id ?_); first | (apply rd_len; exact rfl; exact rfl; assumption) | (apply rd_ix; exact rfl; exact rfl; exact rfl; exact rfl; omega))) <;> (conv => whnf)))
  refine dr_autos [] 1000 tabOk (by kernel_rfl) (by decide +kernel) ?_
  replace hp := hp.drew
  ((conv => whnf); repeat' ((first | ((with_reducible refine br_id ?_); first | (with_reducible (first | refine br_t ?_ | refine br_f ?_ | refine br_not ?_)) | ((with_reducible (first | refine br_dec (fun hx => ?_) (fun hx => ?_) | refine br_eq (fun hx => ?_) (fun hx => ?_) | refine br_ne (fun hx => ?_) (fun hx => ?_) | refine br_s (fun hx => ?_) (fun hx => ?_))) <;> (try (exfalso; first | omega | exact absurd hx (by assumption) | exact absurd (by assumption) hx)))) | ((with_reducible refine ar_id ?_); first | (refine ar_i64 (by omega) ?_) | (refine ar_u32 (by omega) ?_) | (refine ar_u64 (by omega) ?_) | (refine ar_u8 (by omega) ?_)) | ((with_reducible refine cn_id ?_); first | (refine cn rfl ?_) | (refine cn (by assumption) ?_) | (refine cn (by omega) ?_) | (refine cn (Chg.refl _ _) ?_)) | ((with_reducible refine ld_id ?_); first | ((refine ld_of (hp.chg.cell0 hc) ?_)) | (apply ld_hs hp; (focus ((repeat (first | exact Has.here | apply Has.there)); done)); exact rfl) | (refine ld_of (by assumption) ?_)) | ((with_reducible refine ldn_id ?_); first | (apply lda_hs hp; (focus ((repeat (first | exact Has.here | apply Has.there)); done)); exact rfl) | (apply ldn_hs hp; (focus ((repeat (first | exact Has.here | apply Has.there)); done)); exact rfl; exact rfl)) | ((with_reducible refine al_id ?_); first | (refine al_cel hp ?_; clear hp; intro bb w hp)) | ((with_reducible refine st_id ?_); first | (apply sta_hs hp; (focus ((repeat (first | exact Has.here | apply Has.there)); done)); exact rfl; exact rfl; clear hp; intro w hp; (try dsimp only [List.set] at hp)) | (apply st_hs hp; (focus ((repeat (first | exact Has.here | apply Has.there)); done)); exact rfl; exact rfl; clear hp; intro w hp; (try dsimp only [List.set] at hp))) | ((with_reducible refine gen_id ?_); first | (apply gen_build; exact rfl; exact rfl) | (apply gen_len; exact rfl; exact rfl; assumption) | (apply gen_min; exact rfl; exact rfl; exact rfl) | (apply gen_max; exact rfl; exact rfl; exact rfl) | (apply gen_ix; exact rfl; exact rfl; exact rfl; exact rfl; omega) | (apply gen_ixa; exact rfl; exact rfl; exact rfl; exact rfl; omega)) | ((with_reducible refine dr_id ?_); first | (refine dr_auto tabOk (by kernel_rfl) (by decide +kernel) ?_; (try replace hp := hp.drew)) | (refine dr_autog tabOk (by kernel_rfl) (by decide +kernel) ?_; (try replace hp := hp.drew)) | (refine dr_autot tabOk (by kernel_rfl) (by decide +kernel) ?_; (try replace hp := hp.drew))) | ((with_reducible refine fk_id ?_); first | (refine fk_mk ?_ ?_)) | ((with_reducible refine cl_id ?_); first | ((refine cl_eq ((f1 hp.chg)) rfl rfl ?_; rintro e w ⟨rfl, hcc⟩; replace hp := hp.call0 hcc; refine ⟨_, rfl, ?_⟩)) | ((refine cl_eq ((f2 hp.chg)) rfl rfl ?_; rintro e w ⟨rfl, hcc⟩; replace hp := hp.call0 hcc; refine ⟨_, rfl, ?_⟩)) | ((refine cl_eq ((ha _)) rfl rfl ?_; rintro e w ⟨rfl, hcc⟩; replace hp := hp.call0 hcc; refine ⟨_, rfl, ?_⟩))) | ((with_reducible refine rd_id ?_); first | (apply rd_len; exact rfl; exact rfl; assumption) | (apply rd_ix; exact rfl; exact rfl; exact rfl; exact rfl; omega))) <;> (conv => whnf)))
  all_goals exact ps_val (v' := i64 v) rfl ⟨rfl, hp.chg⟩
theorem swoP {S : List Id} (X : Snx) : Sort.SWO (ltOf fun x y : {y : Id // y ∈ S} => aheadV (fstP X x.1) (fstP X y.1)) where
  irrefl x := decide_eq_false fun h => plcLt_irrefl _ ((aheadV_neg _ _).1 h)
  trans x y z h1 h2 := decide_eq_true ((aheadV_neg _ _).2 (plcLt_trans ((aheadV_neg _ _).1 (of_decide_eq_true h1)) ((aheadV_neg _ _).1 (of_decide_eq_true h2))))
  ntrans x y z h1 h2 := decide_eq_false fun h => plcLt_ntrans (fun h3 => of_decide_eq_false h1 ((aheadV_neg _ _).2 h3)) (fun h3 => of_decide_eq_false h2 ((aheadV_neg _ _).2 h3)) ((aheadV_neg _ _).1 h)
theorem shinted_any {w0 : World} {b : Nat} {X : Snx} (h : SnAt w0 b X) (k : Hint) (hne : (idx X.lh k).l ≠ []) (hpl : ∀ y ∈ (idx X.lh k).l, (idx X.lw y).l ≠ []) (hnx : ∀ x, (idx X.lw x).l.length ≤ 1000000) (hnk : (idx X.lh k).l.length ≤ 1000000) : Calls Try.prog 51 #[ptr b, k.v] w0 fun e w' => ∃ r : Sl Id, r.l.Perm (idx X.lh k).l ∧ r.l.Pairwise (fun x y => ¬ plcLt (fstP X y) (fstP X x)) ∧ e = .returned r.v ∧ Made (rowR 62 32 Id.c r) w0 w' := by
  have hp := Hp.start (S := N0) w0
  have hat := fun {w : World} (hc : Chg N0 w0 w) => iatHI (h.keep0 hc).hi k hnk
  obtain ⟨S, hS⟩ : ∃ S, (idx X.lh k).l = S := ⟨_, rfl⟩
  rw [hS] at hat hne hpl hnk ⊢
  obtain ⟨z0, hz0⟩ : ∃ z, z ∈ S := List.exists_mem_of_ne_nil S hne
  haveI : Inhabited {y : Id // y ∈ S} := ⟨⟨z0, hz0⟩⟩
  refine calls_x (args := [_, _]) tabOk Try.func51 Try.ntmps51 Try.results51 rfl (Nat.le_of_ble_eq_true rfl) ?_
  ((conv => whnf); repeat' ((first | ((with_reducible refine br_id ?_); first | (with_reducible (first | refine br_t ?_ | refine br_f ?_ | refine br_not ?_)) | ((with_reducible (first | refine br_dec (fun hx => ?_) (fun hx => ?_) | refine br_eq (fun hx => ?_) (fun hx => ?_) | refine br_ne (fun hx => ?_) (fun hx => ?_) | refine br_s (fun hx => ?_) (fun hx => ?_))) <;> (try (exfalso; first | omega | exact absurd hx (by assumption) | exact absurd (by assumption) hx)))) | ((with_reducible refine ar_id ?_); first | (refine ar_i64 (by omega) ?_) | (refine ar_u32 (by omega) ?_) | (refine ar_u64 (by omega) ?_) | (refine ar_u8 (by omega) ?_)) | ((with_reducible refine cn_id ?_); first | (refine cn rfl ?_) | (refine cn (by assumption) ?_) | (refine cn (by omega) ?_) | (refine cn (Chg.refl _ _) ?_)) | ((with_reducible refine ld_id ?_); first | (apply ld_hs hp; (focus ((repeat (first | exact Has.here | apply Has.there)); done)); exact rfl) | (refine ld_of (by assumption) ?_)) | ((with_reducible refine ldn_id ?_); first | (apply lda_hs hp; (focus ((repeat (first | exact Has.here | apply Has.there)); done)); exact rfl) | (apply ldn_hs hp; (focus ((repeat (first | exact Has.here | apply Has.there)); done)); exact rfl; exact rfl)) | ((with_reducible refine al_id ?_); first | (refine al_cel hp ?_; clear hp; intro bb w hp)) | ((with_reducible refine st_id ?_); first | (apply sta_hs hp; (focus ((repeat (first | exact Has.here | apply Has.there)); done)); exact rfl; exact rfl; clear hp; intro w hp; (try dsimp only [List.set] at hp)) | (apply st_hs hp; (focus ((repeat (first | exact Has.here | apply Has.there)); done)); exact rfl; exact rfl; clear hp; intro w hp; (try dsimp only [List.set] at hp))) | ((with_reducible refine gen_id ?_); first | (apply gen_build; exact rfl; exact rfl) | (apply gen_len; exact rfl; exact rfl; assumption) | (apply gen_min; exact rfl; exact rfl; exact rfl) | (apply gen_max; exact rfl; exact rfl; exact rfl) | (apply gen_ix; exact rfl; exact rfl; exact rfl; exact rfl; omega) | (apply gen_ixa; exact rfl; exact rfl; exact rfl; exact rfl; omega)) | ((with_reducible refine fk_id ?_); first | (refine fk_mk ?_ ?_)) | ((with_reducible refine cl_id ?_); first | ((refine cl_eq ((snone_any (h.keep0 hp.chg))) rfl rfl ?_; rintro e w ⟨rfl, hcc⟩; replace hp := hp.call0 hcc; refine ⟨_, rfl, ?_⟩))) | ((with_reducible refine rd_id ?_); first | (apply rd_len; exact rfl; exact rfl; assumption) | (apply rd_ix; exact rfl; exact rfl; exact rfl; exact rfl; omega))) <;> (conv => whnf)))
  refine dr_autos [] 1000 tabOk (by kernel_rfl) (by decide +kernel) ?_
  replace hp := hp.drew
  ((conv => whnf); repeat' ((first | ((with_reducible refine br_id ?_); first | (with_reducible (first | refine br_t ?_ | refine br_f ?_ | refine br_not ?_)) | ((with_reducible (first | refine br_dec (fun hx => ?_) (fun hx => ?_) | refine br_eq (fun hx => ?_) (fun hx => ?_) | refine br_ne (fun hx => ?_) (fun hx => ?_) | refine br_s (fun hx => ?_) (fun hx => ?_))) <;> (try (exfalso; first | omega | exact absurd hx (by assumption) | exact absurd (by assumption) hx)))) | ((with_reducible refine ar_id ?_); first | (refine ar_i64 (by omega) ?_) | (refine ar_u32 (by omega) ?_) | (refine ar_u64 (by omega) ?_) | (refine ar_u8 (by omega) ?_)) | ((with_reducible refine cn_id ?_); first | (refine cn rfl ?_) | (refine cn (by assumption) ?_) | (refine cn (by omega) ?_) | (refine cn (Chg.refl _ _) ?_)) | ((with_reducible refine ld_id ?_); first | ((refine ld_of ((h.keep0 hp.chg).cell rfl) ?_)) | (apply ld_hs hp; (focus ((repeat (first | exact Has.here | apply Has.there)); done)); exact rfl) | (refine ld_of (by assumption) ?_)) | ((with_reducible refine ldn_id ?_); first | (apply lda_hs hp; (focus ((repeat (first | exact Has.here | apply Has.there)); done)); exact rfl) | (apply ldn_hs hp; (focus ((repeat (first | exact Has.here | apply Has.there)); done)); exact rfl; exact rfl)) | ((with_reducible refine al_id ?_); first | (refine al_cel hp ?_; clear hp; intro bb w hp)) | ((with_reducible refine st_id ?_); first | (apply sta_hs hp; (focus ((repeat (first | exact Has.here | apply Has.there)); done)); exact rfl; exact rfl; clear hp; intro w hp; (try dsimp only [List.set] at hp)) | (apply st_hs hp; (focus ((repeat (first | exact Has.here | apply Has.there)); done)); exact rfl; exact rfl; clear hp; intro w hp; (try dsimp only [List.set] at hp))) | ((with_reducible refine gen_id ?_); first | ((refine gen_mkf rfl rfl ?_)) | (apply gen_build; exact rfl; exact rfl) | (apply gen_len; exact rfl; exact rfl; assumption) | (apply gen_min; exact rfl; exact rfl; exact rfl) | (apply gen_max; exact rfl; exact rfl; exact rfl) | (apply gen_ix; exact rfl; exact rfl; exact rfl; exact rfl; omega) | (apply gen_ixa; exact rfl; exact rfl; exact rfl; exact rfl; omega)) | ((with_reducible refine fk_id ?_); first | (refine fk_mk ?_ ?_)) | ((with_reducible refine cl_id ?_); first | ((refine cl_eq (hat hp.chg) rfl rfl ?_; rintro e w ⟨r0, hr0, rfl, hmd⟩; replace hp := hp.add hmd; replace hmd := hmd.chg; refine ⟨_, rfl, ?_⟩))) | ((with_reducible refine rd_id ?_); first | (apply rd_len; exact rfl; exact rfl; assumption) | (apply rd_ix; exact rfl; exact rfl; exact rfl; exact rfl; omega))) <;> (conv => whnf)))
  obtain ⟨b3, hb3⟩ : ∃ x : Nat, x = bb := ⟨_, rfl⟩
  subst hb3
  obtain ⟨b2, hb2⟩ : ∃ x : Nat, x = bb := ⟨_, rfl⟩
  subst hb2
  obtain ⟨s, hs⟩ : ∃ s : Sl {y : Id // y ∈ S}, s = ⟨r0.A, r0.c, S.attach⟩ := ⟨_, rfl⟩
  have hatt : S.attach.map (·.1) = S := List.attach_map_subtype_val S
  have hrow : rowR 62 32 Id.c r0 = rowR 62 32 (fun z : {y : Id // y ∈ S} => Id.c z.1) s := by
    rw [rowR_sub, hs]
    dsimp only
    rw [hatt, ← hr0]
  have hsl : s.l.length = r0.l.length := by rw [hs, hr0]; simp
  have hsv : s.v = .slice r0.A r0.l.length r0.c := by rw [Sl.v, hsl, hs]
  have hok := hp.get (j := 0) rfl
  rw [hrow] at hok
  have hdom : ∀ x, (rowR 62 32 (fun z : {y : Id // y ∈ S} => Id.c z.1) s).dom x → w0.heap.size ≤ x := fun x hx => by
    rw [← hrow] at hx
    exact (hp.own _ (List.mem_cons_self ..) x hx).resolve_left fun hh => hh
  have hc2 := cel_ok.1 (hp.get (j := 2) rfl)
  have hn2 : ¬ (rowR 62 32 (fun z : {y : Id // y ∈ S} => Id.c z.1) s).dom b2 := fun hh => by
    rw [← hrow] at hh
    exact (List.pairwise_cons.1 hp.sep).1 (cel b2 55 #[ptr b]) (by simp) b2 hh (cel_dom.2 rfl)
  have hchg := hp.chg
  have hcmp : ∀ (x y : {y : Id // y ∈ S}) (W : World), Chg (rowR 62 32 (fun z : {y : Id // y ∈ S} => Id.c z.1) s).dom w W → Calls Try.prog 82 (#[.agg (Id.c x.1).toArray, .agg (Id.c y.1).toArray] ++ #[ptr b2]) W fun e w' => e = .returned (.int .i64 (aheadV (fstP X x.1) (fstP X y.1))) ∧ Chg N0 W w' := fun x y W hW => by
    have h1 : Chg N0 w0 W := hchg.trans hW fun q hq hd => (Nat.not_le.2 hq (hdom q hd)).elim
    exact hinted1_any (h.keep0 h1) (cell_of_heap (hW.heap hc2 hn2) rfl) (hpl _ x.2) (hpl _ y.2) hnx
  refine cl_eq (sortf_chg (enc := fun z : {y : Id // y ∈ S} => Id.c z.1) srtH Try.isAgg62 Try.sizeOf62 (fun _ => rfl) (fun x => idL_one x.1 (List.mem_singleton.2 rfl)) (fun x y => aheadV (fstP X x.1) (fstP X y.1)) (swoP X) 82 #[ptr b2] (enters_of Try.func82 (by kernel_rfl) rfl) hok (by rw [hsl, hr0]; omega) hcmp) rfl (by rw [hsv]; rfl) ?_
  rintro e w ⟨rfl, l', hl', hsrt, hmt⟩
  rw [← hrow, rowR_sub] at hmt
  replace hp := hp.via (j := 0) rfl hmt
  clear hmt
  dsimp only [List.set] at hp
  refine ⟨_, rfl, ?_⟩
  obtain ⟨r, hr⟩ : ∃ r : Sl Id, r = ⟨s.A, s.c, l'.map (·.1)⟩ := ⟨_, rfl⟩
  rw [← hr] at hp
  have hrv : r.v = .slice r0.A r0.l.length r0.c := by
    rw [hr, Sl.v]
    dsimp only
    rw [List.length_map, hl'.length_eq, hsl, hs]
  have hpm : r.l.Perm S := by
    rw [hr]
    have h1 := hl'.map (·.1)
    rw [hs, hatt] at h1
    exact h1
  have hpw : r.l.Pairwise fun x y => ¬ plcLt (fstP X y) (fstP X x) := by
    rw [hr]
    exact List.pairwise_map.2 (hsrt.imp fun hh h9 => of_decide_eq_false hh ((aheadV_neg _ _).2 h9))
  ((conv => whnf); repeat' ((first | ((with_reducible refine br_id ?_); first | (with_reducible (first | refine br_t ?_ | refine br_f ?_ | refine br_not ?_)) | ((with_reducible (first | refine br_dec (fun hx => ?_) (fun hx => ?_) | refine br_eq (fun hx => ?_) (fun hx => ?_) | refine br_ne (fun hx => ?_) (fun hx => ?_) | refine br_s (fun hx => ?_) (fun hx => ?_))) <;> (try (exfalso; first | omega | exact absurd hx (by assumption) | exact absurd (by assumption) hx)))) | ((with_reducible refine ar_id ?_); first | (refine ar_i64 (by omega) ?_) | (refine ar_u32 (by omega) ?_) | (refine ar_u64 (by omega) ?_) | (refine ar_u8 (by omega) ?_)) | ((with_reducible refine cn_id ?_); first | (refine cn rfl ?_) | (refine cn (by assumption) ?_) | (refine cn (by omega) ?_) | (refine cn (Chg.refl _ _) ?_)) | ((with_reducible refine ld_id ?_); first | (apply ld_hs hp; (focus ((repeat (first | exact Has.here | apply Has.there)); done)); exact rfl) | (refine ld_of (by assumption) ?_)) | ((with_reducible refine ldn_id ?_); first | (apply lda_hs hp; (focus ((repeat (first | exact Has.here | apply Has.there)); done)); exact rfl) | (apply ldn_hs hp; (focus ((repeat (first | exact Has.here | apply Has.there)); done)); exact rfl; exact rfl)) | ((with_reducible refine al_id ?_); first | (refine al_cel hp ?_; clear hp; intro bb w hp)) | ((with_reducible refine st_id ?_); first | (apply sta_hs hp; (focus ((repeat (first | exact Has.here | apply Has.there)); done)); exact rfl; exact rfl; clear hp; intro w hp; (try dsimp only [List.set] at hp)) | (apply st_hs hp; (focus ((repeat (first | exact Has.here | apply Has.there)); done)); exact rfl; exact rfl; clear hp; intro w hp; (try dsimp only [List.set] at hp))) | ((with_reducible refine gen_id ?_); first | (apply gen_build; exact rfl; exact rfl) | (apply gen_len; exact rfl; exact rfl; assumption) | (apply gen_min; exact rfl; exact rfl; exact rfl) | (apply gen_max; exact rfl; exact rfl; exact rfl) | (apply gen_ix; exact rfl; exact rfl; exact rfl; exact rfl; omega) | (apply gen_ixa; exact rfl; exact rfl; exact rfl; exact rfl; omega)) | ((with_reducible refine dr_id ?_); first | (refine dr_auto tabOk (by kernel_rfl) (by decide +kernel) ?_; (try replace hp := hp.drew)) | (refine dr_autog tabOk (by kernel_rfl) (by decide +kernel) ?_; (try replace hp := hp.drew)) | (refine dr_autot tabOk (by kernel_rfl) (by decide +kernel) ?_; (try replace hp := hp.drew))) | ((with_reducible refine fk_id ?_); first | (refine fk_mk ?_ ?_)) | ((with_reducible refine rd_id ?_); first | (apply rd_len; exact rfl; exact rfl; assumption) | (apply rd_ix; exact rfl; exact rfl; exact rfl; exact rfl; omega))) <;> (conv => whnf)))
  exact ps_val (v' := .slice r0.A r0.l.length r0.c) rfl ⟨r, hpm, hpw, by rw [hrv], hp.made1 (j := 0) rfl⟩
end Go.Proofs.Ytdncnepedkkamaa
