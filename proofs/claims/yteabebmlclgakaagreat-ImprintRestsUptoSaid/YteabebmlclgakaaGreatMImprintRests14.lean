/- MImprintRests14: HintG, Plc, HintIP. -/
import Derived.Test.YteabebmlclgakaaGreatMImprintRests10
import Derived.Test.YteabebmlclgakaaGreatMImprintRests11
import Derived.Test.YteabebmlclgakaaGreatMImprintRests8
import Derived.Test.YteabebmlclgakaaGreatMImprintRests7
import Derived.Test.YteabebmlclgakaaGreatMImprintRests9
import Derived.Test.YteabebmlclgakaaGreatMImprintRestssTailS
import Derived.Test.YteabebmlclgakaaGreatMImprintRests13
/- HintG: tools for indexes; keys that are hints. No condition. -/
namespace Go.Proofs.YteabebmlclgakaaGreat
set_option linter.unusedSimpArgs false
set_option linter.unusedVariables false
open Go.RowKit
set_option maxRecDepth 100000
set_option maxHeartbeats 2000000
/-- a fact beside the world -/
def pureR (p : Prop) : Res where
  dom _ := False
  ok _ := p
  lt _ _ _ h := h.elim
  loc _ _ _ h := h
theorem pureR_ok {p : Prop} {w : World} : (pureR p).ok w ↔ p := Iff.rfl
theorem pureR_dom {p : Prop} {b : Nat} : ¬ (pureR p).dom b := fun h => h
section
variable {S : Nat → Prop} {w0 w w' : World} {rs : List Res} {j : Nat}
theorem Hp.pure {p : Prop} (h : Hp S w0 w rs) (hp : p) : Hp S w0 w (pureR p :: rs) := h.new (Chg.refl _ _) (pureR_ok.2 hp) fun _ hb => (pureR_dom hb).elim
theorem Hp.pureAt {p q : Prop} (h : Hp S w0 w rs) (hj : rs[j]? = some (pureR p)) (hq : q) : Hp S w0 w (rs.set j (pureR q)) := h.mut hj (Chg.refl _ _) (pureR_ok.2 hq) fun _ hb => (pureR_dom hb).elim
theorem Hp.fact {p : Prop} (h : Hp S w0 w rs) (hj : rs[j]? = some (pureR p)) : p := pureR_ok.1 (h.get hj)
theorem ldn_heap {b n : Nat} {t : TypeId} {cs : List Value} {k : Value → Prop} (h : w.heap[b]? = some (.cells cs.toArray t)) (hl : cs.length = n) (hk : k (.agg cs.toArray)) : LdN w ⟨b, 0, none⟩ n k :=
  ldn_of hl (fun i v hi => by rw [add_plain]; exact cell_of_heap h (by simpa using hi)) hk
theorem Chg.heapS {S : Nat → Prop} {k : Nat} {o : Obj} (h : Chg S w w') (hk : w.heap[k]? = some o) (hn : ¬ S k) : w'.heap[k]? = some o := h.heap hk hn
end
section
variable {P : Program} {w : World} {κ ν : Type} [DecidableEq κ] {enc : κ → Value} {val : ν → Value} {k e t : TypeId} {b : Nat} {l : List (κ × ν)} {ρ : Operand → Value} {o : Oper}
theorem rd_lookM {g : Value → Prop} {m x : Operand} {ok : Bool} (hop : o.op = Op.lookup t m x ok) (hM : MapAt enc val w b l) (hm : ρ m = .map (some b)) (KE : KEnc P k enc) (ht : P.underlying t = some (.map k e)) {z : ν} (hz : zeroOf P e = some (val z)) (c : κ) (hx : ρ x = enc c) {v : ν} (hv : (l.lookup c).getD z = v)
    (hk : g (if ok then .tuple #[val v, .bool (l.lookup c).isSome] else val v)) : Rd P ρ o w g := by
  subst hv
  refine ⟨_, fun w' hc => ?_, hk⟩
  obtain ⟨h1, h2⟩ := (hM.keep0 hc).look KE ht (fun W => run_zeroOf hz) c
  cases ok
  · simp [execOp, hop, hm, hx, h2]
  · simp [execOp, hop, hm, hx, h1]
theorem gen_lookM {g : Value → World → Prop} {m x : Operand} {ok : Bool} (hop : o.op = Op.lookup t m x ok) (hM : MapAt enc val w b l) (hm : ρ m = .map (some b)) (KE : KEnc P k enc) (ht : P.underlying t = some (.map k e)) {z : ν} (hz : zeroOf P e = some (val z)) (c : κ) (hx : ρ x = enc c) {v : ν} (hv : (l.lookup c).getD z = v)
    (hk : g (if ok then .tuple #[val v, .bool (l.lookup c).isSome] else val v) w) : Gen P ρ o w g := by
  obtain ⟨v', h1, h2⟩ := rd_lookM (g := fun v => g v w) hop hM hm KE ht hz c hx hv hk
  exact gen_v (h1 w (Chg.refl _ _)) h2
omit [DecidableEq κ] in
theorem gen_mlenM {g : Value → World → Prop} {m : Operand} (hop : o.op = Op.call { callee := .builtin .len, args := #[m], argTypes := #[t] }) (hM : MapAt enc val w b l) (hm : ρ m = .map (some b)) (ht : P.underlying t = some (.map k e))
    (hk : g (.int .i64 l.length) w) : Gen P ρ o w g := by
  have hrun := hM.len (ty := o.type) ht
  exact gen_v (by simp [execOp, hop, resolve, invoke, builtin, hm, hrun]) hk
theorem rd_cutl {α : Type} {g : Value → Prop} {sz bytes : Nat} {x lo : Operand} (hop : o.op = .slice t x (some lo) none none) (hE : ElT P t e sz bytes) (s : Sl α) (hx : ρ x = s.v) (hc : s.l.length ≤ s.c) {k : IntKind} {m : Int} (hl : ρ lo = .int k m) {l : Nat} (hm : m = l) (h2 : l ≤ s.l.length) (hk : g (s.cut sz l s.l.length).v) : Rd P ρ o w g := by
  subst hm
  obtain ⟨ht, i, z, hi', _, hs, _⟩ := hE
  exact ⟨_, fun w' _ => run_cut hop ht ⟨i, hi', hs⟩ s hx hc (l := l) (h := s.l.length) ⟨k, hl⟩ rfl h2 (Nat.le_refl _), hk⟩
theorem gen_mkf {fn : Fn} {a b : Array Operand} {g : Value → World → Prop} (hop : o.op = .makeFunc fn a b) {v : Value} (hv : .func fn (a.toList.map ρ).toArray (b.toList.map ρ).toArray = v) (h : g v w) : Gen P ρ o w g := by
  subst hv
  have e1 : ∀ a : Array Operand, a.map ρ = (a.toList.map ρ).toArray := fun a => by apply Array.ext'; simp
  rw [← e1, ← e1] at h
  exact gen_v (by simp [execOp, hop, Instr.makeFunc]) h
end
theorem hg_lookup {κ ν : Type} [DecidableEq κ] {k : κ} {v : ν} : ∀ {l : List (κ × ν)}, l.lookup k = some v → (k, v) ∈ l
  | [], h => by simp at h
  | p :: l, h => by
    rw [List.lookup_cons] at h
    by_cases hk : k = p.1
    · have hb : (k == p.1) = true := by simpa using hk
      rw [hb] at h
      cases h
      subst hk
      simp
    · have hb : (k == p.1) = false := by simpa using hk
      rw [hb] at h
      exact List.mem_cons_of_mem _ (hg_lookup h)
/-! ## Hints -/
theorem eq_hint (x y : Hint) : EqIs Tryz.prog 37 x.v y.v (decide (x = y)) := fun w => by
  have h := run_equalIn_bytes (P := Tryz.prog) w 9998 37 5 16 (by kernel_rfl) Tryz.underlying5 (fun w => by rfl) x.toList y.toList (by simp) (by simp)
  rw [Hint.cells, Hint.cells] at h
  have e : (x.toList == y.toList) = decide (x = y) := by
    rw [Bool.eq_iff_iff]
    simp
  rw [e] at h
  exact h
theorem hint_law : Maps.Keyed Tryz.prog 37 := Maps.Keyed.of_law (deep_law (m := 3) (by omega) (by kernel_rfl) (by kernel_rfl) (by kernel_rfl))
theorem Hint.inj {x y : Hint} (h : x.v = y.v) : x = y := by
  have h1 : x.c.toArray = y.c.toArray := by injection h
  rw [← Hint.cells, ← Hint.cells] at h1
  have h2 : x.toList.map Extern.Stop.cell = y.toList.map Extern.Stop.cell := by simpa using h1
  have h3 : x.toList = y.toList := by
    have hinj : ∀ a b : UInt8, Extern.Stop.cell a = Extern.Stop.cell b → a = b := fun a b hh => by
      simp [Extern.Stop.cell] at hh
      exact UInt8.toNat_inj.1 (by omega)
    exact List.map_inj_right hinj |>.1 h2
  exact Vector.toList_inj.1 h3
theorem hintK : KEnc Tryz.prog 37 Hint.v where
  law := hint_law
  reads x := by
    obtain ⟨L, hL⟩ := keyLits_u8s (P := Tryz.prog) (t := 37) (e := 5) (n := 16) (d := Tryz.prog.types.size - 1) (by kernel_rfl) Tryz.underlying5 (by kernel_rfl) (by kernel_rfl) x.toList (by simp)
    have h1 : x.v.cells.toList = x.toList.map u8 := by
      have := congrArg Array.toList (Hint.cells x)
      rw [List.toList_toArray, List.toList_toArray] at this
      exact this.symm
    have h2 : Tryz.prog.types.size - 1 + 2 = Tryz.prog.types.size + 1 := by kernel_rfl
    rw [h2] at hL
    refine ⟨.string (keyBytes L), ?_⟩
    have ht : Tryz.prog.underlying 37 = some (.array 16 5) := by kernel_rfl
    have hk : (Tryz.prog.keyType 37 && x.v.formed Tryz.prog 37) = true := by kernel_rfl
    unfold keyOf
    rw [ht]
    simp only
    rw [if_pos hk, h1, hL]
    rfl
  inj h := Hint.inj h
theorem el_key : ElT Tryz.prog 64 42 2 8 := elt_of (z := .agg #[.int .u32 0, .int .u32 0]) Tryz.underlying64 (by kernel_rfl) rfl (by omega)
theorem key_one {l : List Key} : ∀ x ∈ l, ∀ u ∈ Key.c x, u.oneCell' = true := fun x _ u hu => by
  rcases List.mem_cons.1 hu with rfl | hu
  · rfl
  rcases List.mem_cons.1 hu with rfl | hu
  · rfl
  · cases hu
/-! ## An index -/
section
variable {κ ν : Type} [DecidableEq κ]
/-- what a key has -/
def idx (l : List (κ × Sl ν)) (k : κ) : Sl ν := (l.lookup k).getD Sl.nil
variable {kv : κ → Value} {vc : ν → List Value} {it et : TypeId} {sz : Nat} {b m : Nat} {n : Int} {l : List (κ × Sl ν)} {w w' : World}
abbrev irow (et : TypeId) (sz : Nat) (vc : ν → List Value) (p : κ × Sl ν) : Res := rowR et sz vc p.2
abbrev idxRs (it et : TypeId) (sz : Nat) (kv : κ → Value) (vc : ν → List Value) (b m : Nat) (l : List (κ × Sl ν)) (n : Int) : List Res := cel b it #[.map (some m), i64 n] :: mapR kv Sl.v m l :: l.map (irow et sz vc)
structure IdxAt (kv : κ → Value) (vc : ν → List Value) (sz : Nat) (w : World) (b m : Nat) (l : List (κ × Sl ν)) (n : Int) : Prop where
  c0 : w.cell? ⟨b, 0, none⟩ = some (.map (some m))
  c1 : w.cell? ⟨b, 1, none⟩ = some (i64 n)
  map : MapAt kv Sl.v w m l
  row : ∀ p ∈ l, SlAt w.heap.size w vc sz p.2
omit [DecidableEq κ] in
theorem idxAt (h : (star (idxRs it et sz kv vc b m l n)).ok w) : IdxAt kv vc sz w b m l n := by
  have hp := Hp.open h
  exact ⟨cell_of_heap (hp.cel_get (j := 0) rfl) rfl, cell_of_heap (hp.cel_get (j := 0) rfl) rfl, mapR_ok.1 (hp.get (j := 1) rfl), fun p hm => rowR_at (e := et) (hp.ok (irow et sz vc p) (List.mem_cons_of_mem _ (List.mem_cons_of_mem _ (List.mem_map_of_mem hm))))⟩
omit [DecidableEq κ] in
theorem IdxAt.keep0 (h : IdxAt kv vc sz w b m l n) (hc : Chg N0 w w') : IdxAt kv vc sz w' b m l n :=
  ⟨hc.cell0 h.c0, hc.cell0 h.c1, h.map.keep0 hc, fun p hm => ((h.row p hm).keep hc fun _ hh => hh.elim).more hc.size⟩
theorem IdxAt.idx (h : IdxAt kv vc sz w b m l n) (k : κ) : SlAt w.heap.size w vc sz (idx l k) := by
  unfold Go.Proofs.YteabebmlclgakaaGreat.idx
  cases hl : l.lookup k with
  | none => exact .none_
  | some x => exact h.row _ (hg_lookup hl)
theorem idx_mput (l : List (κ × Sl ν)) (k : κ) (s : Sl ν) (x : κ) : idx (mput l k s) x = if x = k then s else idx l x := by
  unfold idx
  rw [lookup_mput]
  by_cases h : x = k
  · rw [if_pos h, if_pos h]; rfl
  · rw [if_neg h, if_neg h]
theorem lookup_mdel (l : List (κ × Sl ν)) (k x : κ) : (mdel l k).lookup x = if x = k then none else l.lookup x := by
  unfold mdel
  induction l with
  | nil => simp
  | cons p l ih =>
    by_cases hp : p.1 = k
    · rw [List.filter_cons_of_neg (by simpa using hp), ih, List.lookup_cons]
      by_cases hx : x = k
      · rw [if_pos hx, if_pos hx]
      · rw [if_neg hx, if_neg hx]
        have : (x == p.1) = false := by simp only [beq_eq_false_iff_ne, ne_eq]; exact fun e => hx (e.trans hp)
        rw [this]
    · rw [List.filter_cons_of_pos (by simpa using hp), List.lookup_cons, List.lookup_cons, ih]
      by_cases hx : x = k
      · rw [if_pos hx, if_pos hx]
        have : (x == p.1) = false := by simp only [beq_eq_false_iff_ne, ne_eq]; exact fun e => hp (e.symm.trans hx)
        rw [this]
      · rw [if_neg hx, if_neg hx]
theorem idx_mdel (l : List (κ × Sl ν)) (k x : κ) : idx (mdel l k) x = if x = k then Sl.nil else idx l x := by
  unfold idx
  rw [lookup_mdel]
  by_cases h : x = k
  · rw [if_pos h, if_pos h]; rfl
  · rw [if_neg h, if_neg h]
theorem mput_perm {β : Type} (f : κ × Sl ν → β) (k : κ) (v : Sl ν) : ∀ {l : List (κ × Sl ν)}, (l.map (·.1)).Nodup → ∃ m, (f (k, v) :: l.map f).Perm (m ++ (mput l k v).map f)
  | [], _ => ⟨[], by simp [mput]⟩
  | p :: l, hn => by
    rw [List.map_cons, List.nodup_cons] at hn
    by_cases hk : p.1 = k
    · refine ⟨[f p], ?_⟩
      have h1 : mput (p :: l) k v = (k, v) :: l := by
        unfold mput
        rw [if_pos (by simp [hk])]
        have h2 : ∀ q ∈ l, (if q.1 = k then (k, v) else q) = q := fun q hq => by
          rw [if_neg]
          intro e
          exact hn.1 (hk ▸ e ▸ List.mem_map_of_mem (f := fun x : κ × Sl ν => x.1) hq)
        rw [List.map_cons, if_pos hk, List.map_congr_left h2, List.map_id']
      rw [h1]
      exact .swap ..
    · obtain ⟨m, hm⟩ := mput_perm f k v hn.2
      have h1 : mput (p :: l) k v = p :: mput l k v := by
        unfold mput
        by_cases hkl : k ∈ l.map (·.1)
        · rw [if_pos hkl, if_pos (by rw [List.map_cons]; exact List.mem_cons_of_mem _ hkl), List.map_cons, if_neg hk]
        · rw [if_neg hkl, if_neg (by rw [List.map_cons, List.mem_cons]; exact fun h => h.elim (fun e => hk e.symm) hkl)]
          rfl
      refine ⟨m, ?_⟩
      rw [h1, List.map_cons, List.map_cons]
      exact ((List.Perm.swap ..).trans (hm.cons _)).trans (List.perm_middle).symm
/-- the row of a key, taken out -/
theorem rows_take {β : Type} (f : κ × Sl ν → β) (k : κ) : ∀ {l : List (κ × Sl ν)}, (l.map (·.1)).Nodup → ∃ rest, ((∃ s, l.lookup k = some s ∧ (l.map f).Perm (f (k, s) :: rest)) ∨ (l.lookup k = none ∧ l.map f = rest)) ∧ (∀ s', (f (k, s') :: rest).Perm ((mput l k s').map f)) ∧ rest = (mdel l k).map f
  | [], _ => ⟨[], .inr ⟨by simp, by simp⟩, fun s' => by simp [mput], by simp [mdel]⟩
  | p :: l, hn => by
    rw [List.map_cons, List.nodup_cons] at hn
    by_cases hk : p.1 = k
    · subst hk
      have hno : ∀ q ∈ l, q.1 ≠ p.1 := fun q hq e => hn.1 (e ▸ List.mem_map_of_mem (f := fun x : κ × Sl ν => x.1) hq)
      have hdel : mdel (p :: l) p.1 = l := by
        unfold mdel
        rw [List.filter_cons_of_neg (by simp)]
        exact List.filter_eq_self.2 (by simpa using hno)
      refine ⟨l.map f, .inl ⟨p.2, by rw [List.lookup_cons, beq_self_eq_true], .refl _⟩, fun s' => ?_, by rw [hdel]⟩
      have h1 : mput (p :: l) p.1 s' = (p.1, s') :: l := by
        unfold mput
        rw [if_pos (by simp)]
        have h2 : ∀ q ∈ l, (if q.1 = p.1 then (p.1, s') else q) = q := fun q hq => if_neg (hno q hq)
        rw [List.map_cons, if_pos rfl, List.map_congr_left h2, List.map_id']
      rw [h1]
      simp
    · obtain ⟨rest, h1, h2, h3⟩ := rows_take f k hn.2
      have hlk : (p :: l).lookup k = l.lookup k := by
        rw [List.lookup_cons]
        have : (k == p.1) = false := by simp only [beq_eq_false_iff_ne, ne_eq]; exact fun e => hk e.symm
        rw [this]
      refine ⟨f p :: rest, ?_, fun s' => ?_, ?_⟩
      · rw [hlk]
        rcases h1 with ⟨s, h4, h5⟩ | ⟨h4, h5⟩
        · exact .inl ⟨s, h4, (h5.cons _).trans (.swap ..)⟩
        · exact .inr ⟨h4, by rw [List.map_cons, h5]⟩
      · have h4 : mput (p :: l) k s' = p :: mput l k s' := by
          unfold mput
          by_cases hkl : k ∈ l.map (·.1)
          · rw [if_pos hkl, if_pos (by rw [List.map_cons]; exact List.mem_cons_of_mem _ hkl), List.map_cons, if_neg hk]
          · rw [if_neg hkl, if_neg (by rw [List.map_cons, List.mem_cons]; exact fun h => h.elim (fun e => hk e.symm) hkl)]
            rfl
        rw [h4, List.map_cons]
        exact (List.Perm.swap ..).trans ((h2 s').cons _)
      · have h4 : mdel (p :: l) k = p :: mdel l k := by
          unfold mdel
          rw [List.filter_cons_of_pos (by simpa using hk)]
        rw [h4, List.map_cons, h3]
theorem idx_out {D : Nat → Prop} {w0 : World} {c : List Res} (k : κ) (h : Hp D w0 w (c ++ (cel b it #[.map (some m), i64 n] :: mapR kv Sl.v m l :: l.map (irow et sz vc)))) :
    ∃ rest, Hp D w0 w (rowR et sz vc (idx l k) :: (c ++ (cel b it #[.map (some m), i64 n] :: mapR kv Sl.v m l :: rest))) ∧ (∀ s', (irow et sz vc (k, s') :: rest).Perm ((mput l k s').map (irow et sz vc))) ∧ rest = (mdel l k).map (irow et sz vc) := by
  have hM : MapAt kv Sl.v w m l := mapR_ok.1 (h.ok _ (by simp))
  obtain ⟨rest, h1, h2, h3⟩ := rows_take (irow et sz vc) k hM.nodup
  refine ⟨rest, ?_, h2, h3⟩
  rcases h1 with ⟨s, h4, h5⟩ | ⟨h4, h5⟩
  · have e : idx l k = s := by unfold idx; rw [h4]; rfl
    rw [e]
    refine h.perm ?_
    have h6 : (c ++ (cel b it #[.map (some m), i64 n] :: mapR kv Sl.v m l :: l.map (irow et sz vc))).Perm (c ++ (cel b it #[.map (some m), i64 n] :: mapR kv Sl.v m l :: (irow et sz vc (k, s) :: rest))) := ((h5.cons _).cons _).append_left c
    refine h6.trans ?_
    have h7 := List.perm_middle (l₁ := c ++ [cel b it #[.map (some m), i64 n], mapR kv Sl.v m l]) (l₂ := rest) (a := irow et sz vc (k, s))
    simpa using h7
  · have e : idx l k = Sl.nil := by unfold idx; rw [h4]; rfl
    rw [e, ← h5]
    exact h.nilRow et sz vc
/-- a row laid under a key -/
theorem idx_put {D : Nat → Prop} {w0 : World} {k : κ} {s : Sl ν} {cs : Array Value} {c : List Res} (h : Hp D w0 w (irow et sz vc (k, s) :: (c ++ (cel b it cs :: mapR kv Sl.v m (mput l k s) :: l.map (irow et sz vc))))) (hn : (l.map (·.1)).Nodup) : Hp D w0 w (cel b it cs :: mapR kv Sl.v m (mput l k s) :: (mput l k s).map (irow et sz vc)) := by
  obtain ⟨q, hq⟩ := mput_perm (irow et sz vc) k s hn
  have h2 := h.perm (rs' := c ++ (cel b it cs :: mapR kv Sl.v m (mput l k s) :: (q ++ (mput l k s).map (irow et sz vc)))) (by
    have h3 := (List.perm_middle (l₁ := c ++ [cel b it cs, mapR kv Sl.v m (mput l k s)]) (l₂ := l.map (irow et sz vc)) (a := irow et sz vc (k, s))).symm
    have h4 := hq.append_left (c ++ [cel b it cs, mapR kv Sl.v m (mput l k s)])
    have h5 := h3.trans h4
    simpa using h5)
  refine h2.sub ?_
  refine List.Sublist.trans ?_ (List.sublist_append_right c _)
  exact ((List.sublist_append_right q _).cons_cons _).cons_cons _
omit [DecidableEq κ] in
theorem idx_back {D : Nat → Prop} {w0 : World} {k : κ} {s' : Sl ν} {C M : Res} {c rest : List Res} {l' : List (κ × Sl ν)} (h : Hp D w0 w (irow et sz vc (k, s') :: (c ++ (C :: M :: rest)))) (hperm : (irow et sz vc (k, s') :: rest).Perm (l'.map (irow et sz vc))) : Hp D w0 w (c ++ (C :: M :: l'.map (irow et sz vc))) := by
  refine h.perm ?_
  have h7 := (List.perm_middle (l₁ := c ++ [C, M]) (l₂ := rest) (a := irow et sz vc (k, s'))).symm
  have h8 := hperm.append_left (c ++ [C, M])
  have h9 := h7.trans h8
  simpa using h9
theorem idxOf_at {α : Type} [BEq α] [LawfulBEq α] {x : α} : ∀ {l : List α} {i : Nat}, l[i]? = some x → (∀ y ∈ l.take i, y ≠ x) → l.idxOf x = i
  | [], i, h, _ => by simp at h
  | y :: l, 0, h, _ => by
    simp at h
    subst h
    simp
  | y :: l, i + 1, h, hn => by
    have hy : y ≠ x := hn y (by simp)
    have h1 := idxOf_at (l := l) (i := i) (by simpa using h) fun z hz => hn z (by simp [hz])
    rw [List.idxOf_cons, h1]
    have : (y == x) = false := by simpa using hy
    rw [this]
    rfl
theorem erase_one {α : Type} [BEq α] [LawfulBEq α] {v : α} {l : List α} (hv : v ∈ l) (hl : l.length = 1) : l.erase v = [] := by
  match l, hl with
  | [x], _ =>
    simp at hv
    subst hv
    simp
theorem erase_cut {α : Type} [BEq α] [LawfulBEq α] {sz a : Nat} {v : α} {s : Sl α} (ha : s.l.idxOf v = a) : (s.cut sz 0 a).l ++ (s.cut sz (a + 1) s.l.length).l = s.l.erase v := by
  show (s.l.take a).drop 0 ++ (s.l.take s.l.length).drop (a + 1) = _
  rw [List.drop_zero, List.take_length, List.erase_eq_eraseIdx_of_idxOf ha, List.eraseIdx_eq_take_drop_succ]
/-- where an iterator's blocks lie -/
theorem iter_at {S T : Nat → Prop} {w0 w : World} {rs1 rs2 : List Res} (h : Hp S w0 w (rs1 ++ rs2)) (hT : ∀ b, T b → b < w0.heap.size ∧ ¬ S b) : ∀ b, ((∃ r ∈ rs1, r.dom b) ∨ T b) → b < w.heap.size ∧ ∀ r ∈ rs2, ¬ r.dom b := by
  rintro b (⟨r, hr, hb⟩ | hb)
  · exact ⟨r.lt w (h.ok r (List.mem_append_left _ hr)) b hb, fun r' hr' hb' => (List.pairwise_append.1 h.sep).2.2 r hr r' hr' b hb hb'⟩
  · obtain ⟨h1, h2⟩ := hT b hb
    refine ⟨Nat.lt_of_lt_of_le h1 h.chg.size, fun r' hr' hb' => ?_⟩
    rcases h.own r' (List.mem_append_right _ hr') b hb' with h3 | h3
    · exact h2 h3
    · omega
end
end Go.Proofs.YteabebmlclgakaaGreat
/- Plc: places of transactions. No condition. -/
namespace Go.Proofs.YteabebmlclgakaaGreat
set_option linter.unusedSimpArgs false
set_option linter.unusedVariables false
open Go.RowKit
set_option maxRecDepth 100000
set_option maxHeartbeats 2000000
structure Plc where
  h : UInt32
  at' : Int
  deriving DecidableEq
abbrev Plc.c (k : Plc) : List Value := [u32 k.h, i64 k.at']
abbrev Plc.v (k : Plc) : Value := .agg #[u32 k.h, i64 k.at']
theorem el_plc : ElT Tryz.prog 267 164 2 16 := elt_of (z := .agg #[.int .u32 0, .int .i64 0]) Tryz.underlying267 (by kernel_rfl) rfl (by omega)
theorem plc_one {l : List Plc} : ∀ x ∈ l, ∀ u ∈ Plc.c x, u.oneCell' = true := fun x _ u hu => by
  rcases List.mem_cons.1 hu with rfl | hu
  · rfl
  rcases List.mem_cons.1 hu with rfl | hu
  · rfl
  · cases hu
theorem eq_plc (x y : Plc) : EqIs Tryz.prog 164 x.v y.v (decide (x = y)) := eqis_of (fs := Tryz.prog.fieldsOf 164) (by kernel_rfl) (by kernel_rfl) fun w => by
  have h0 := eqf_cons (P := Tryz.prog) (w := w) (d := 9999) (xs := #[u32 x.h, i64 x.at']) (ys := #[u32 y.h, i64 y.at']) (f := ((Tryz.prog.fieldsOf 164)[0]?).getD default) (by decide +kernel) (part_word (n := 1) (by kernel_rfl) (v := u32 x.h) (by kernel_rfl)) (part_word (n := 1) (by kernel_rfl) (v := u32 y.h) (by kernel_rfl))
    (run_equalIn_int w 9998 _ .u32 .u32 _ _ (by kernel_rfl)) (eqf_cons (f := ((Tryz.prog.fieldsOf 164)[1]?).getD default) (by decide +kernel) (part_word (n := 1) (by kernel_rfl) (v := i64 x.at') (by kernel_rfl)) (part_word (n := 1) (by kernel_rfl) (v := i64 y.at') (by kernel_rfl)) (run_equalIn_int w 9998 _ .i64 .i64 _ _ (by kernel_rfl)) eqf_nil)
  rw [u32_eq] at h0
  have e : (decide (x.h = y.h) && ((x.at' == y.at') && true)) = decide (x = y) := by
    rw [Bool.eq_iff_iff]
    cases x; cases y
    simp
  rw [e] at h0
  exact h0
end Go.Proofs.YteabebmlclgakaaGreat
/- HintIP: an index of the package hints: api.Id to seen.place. -/
namespace Go.Proofs.YteabebmlclgakaaGreat
set_option linter.unusedSimpArgs false
set_option linter.unusedVariables false
open Go.RowKit
set_option maxRecDepth 100000
set_option maxHeartbeats 2000000
abbrev iRsIP (b m : Nat) (l : List (Id × Sl Plc)) (n : Int) : List Res := idxRs 256 164 2 Id.v Plc.c b m l n
theorem inoneIP {w0 : World} {b m : Nat} (hc : w0.cell? ⟨b, 0, none⟩ = some (.map (some m))) : Calls Tryz.prog 185 #[ptr b] w0 fun e w' => e = .returned (.bool false) ∧ Chg N0 w0 w' := by
  have hp := Hp.start (S := N0) w0
  refine calls_x (args := [_]) tabOk Tryz.func185 Tryz.ntmps185 Tryz.results185 rfl (Nat.le_of_ble_eq_true rfl) ?_
  ((conv => whnf); repeat' ((first | ((with_reducible refine br_id ?_); (with_reducible refine br_f ?_)) | ((with_reducible refine ld_id ?_); ((refine ld_of (hp.chg.cell0 hc) ?_)))) <;> (conv => whnf)))
  exact ps_val (v' := .bool false) rfl ⟨rfl, hp.chg⟩
theorem inewIP {w0 : World} : Calls Tryz.prog 106 #[] w0 fun e w' => ∃ b m, e = .returned (ptr b) ∧ Made (star (iRsIP b m [] 0)) w0 w' := by
  have hp := Hp.start (S := N0) w0
  refine calls_x (args := []) tabOk Tryz.func106 Tryz.ntmps106 Tryz.results106 rfl (Nat.le_of_ble_eq_true rfl) ?_
  ((conv => whnf); repeat' ((first | ((with_reducible refine al_id ?_); (refine al_cel hp ?_; clear hp; intro bb w hp)) | ((with_reducible refine gen_id ?_); first | ((refine gen_mmake rfl Id.v (Sl.v (α := Plc)) hp ?_); clear hp; intro bb w hp) | (apply gen_build; exact rfl; exact rfl))) <;> (conv => whnf)))
  exact ps_of ⟨_, _, rfl, hp.made (.refl _)⟩
theorem iatIP {w0 : World} {b m : Nat} {l : List (Id × Sl Plc)} {n : Int} (h : IdxAt Id.v Plc.c 2 w0 b m l n) (k : Id) (hn : (idx l k).l.length ≤ 1000000) : Calls Tryz.prog 243 #[ptr b, Id.v k] w0 fun e w' => ∃ r : Sl Plc, r.l = (idx l k).l ∧ e = .returned r.v ∧ Made (rowR 164 2 Plc.c r) w0 w' := by
  have hp := Hp.start (S := N0) w0
  have hB : ∀ b, N0 b → w0.heap.size ≤ b := fun _ hh => hh.elim
  have hsa := h.idx k
  obtain ⟨s, hs⟩ : ∃ s, idx l k = s := ⟨_, rfl⟩
  rw [hs] at hn hsa ⊢
  refine calls_x (args := [_, _]) tabOk Tryz.func243 Tryz.ntmps243 Tryz.results243 rfl (Nat.le_of_ble_eq_true rfl) ?_
  ((conv => whnf); repeat' ((first | ((with_reducible refine br_id ?_); (with_reducible refine br_f ?_)) | ((with_reducible refine ld_id ?_); ((refine ld_of (hp.chg.cell0 h.c0) ?_))) | ((with_reducible refine ldn_id ?_); (apply lda_hs hp; (focus ((repeat (first | exact Has.here | apply Has.there)); done)); exact rfl)) | ((with_reducible refine al_id ?_); (refine al_cel hp ?_; clear hp; intro bb w hp)) | ((with_reducible refine gen_id ?_); ((refine gen_app0 rfl hp el_plc rfl s rfl (hsa.keep hp.chg hB) (fun _ _ => rfl) plc_one (by omega) (by simp only [maxLen]; omega) ?_); clear hp; intro A1 c1 w hcc hp)) | ((with_reducible refine dr_id ?_); (refine dr_auto tabOk (by kernel_rfl) (by decide +kernel) ?_; (try replace hp := hp.drew))) | ((with_reducible refine cl_id ?_); ((refine cl_eq ((inoneIP (hp.chg.cell0 h.c0))) rfl rfl ?_; rintro e w ⟨rfl, hcc⟩; replace hp := hp.call0 hcc; refine ⟨_, rfl, ?_⟩))) | ((with_reducible refine rd_id ?_); ((refine rd_lookM rfl (h.map.keep0 hp.chg) rfl idK Tryz.underlying254 (z := Sl.nil) rfl k rfl hs ?_)))) <;> (conv => whnf)))
  exact ps_val (v' := .slice A1 s.l.length c1) rfl ⟨⟨A1, c1, s.l⟩, rfl, rfl, hp.made1 (j := 0) rfl⟩
theorem ieachIP {w0 : World} (b : Nat) (k : Id) : Calls Tryz.prog 218 #[ptr b, Id.v k] w0 fun e w' => ∃ b2 b3, e = .returned (.func (.func 242) #[] #[ptr b2, ptr b3]) ∧ Made (star [cel b3 44 (Id.c k).toArray, cel b2 161 #[ptr b]]) w0 w' := by
  have hp := Hp.start (S := N0) w0
  refine calls_x (args := [_, _]) tabOk Tryz.func218 Tryz.ntmps218 Tryz.results218 rfl (Nat.le_of_ble_eq_true rfl) ?_
  ((conv => whnf); repeat' ((first | ((with_reducible refine al_id ?_); (refine al_cel hp ?_; clear hp; intro bb w hp)) | ((with_reducible refine gen_id ?_); ((refine gen_mkf rfl rfl ?_)))) <;> (conv => whnf)))
  exact ps_of ⟨_, _, rfl, hp.made (.refl _)⟩
/-- the blocks that the closure of Each holds -/
abbrev iEachIP (b b2 b3 : Nat) (k : Id) : List Res := [cel b3 44 (Id.c k).toArray, cel b2 161 #[ptr b]]
theorem iiterIP {w0 : World} {b m b2 b3 : Nat} {l : List (Id × Sl Plc)} {n : Int} {k : Id} (h : (star (iRsIP b m l n)).ok w0) (h3 : (cel b3 44 (Id.c k).toArray).ok w0) (h2 : (cel b2 161 #[ptr b]).ok w0) (hn : (idx l k).l.length ≤ 1000000) :
    Iter Tryz.prog (fun x => (∃ r ∈ iEachIP b b2 b3 k, r.dom x) ∨ (star (iRsIP b m l n)).dom x) 242 #[ptr b2, ptr b3] (fun v : Plc => #[Plc.v v]) (idx l k).l w0 := by
  refine ⟨fun L R X r0 hR0 hR hdis hy => ?_⟩
  have hp := Hp.start1 hR
  have hx2 : ¬ r0.dom b2 := fun hh => hdis _ hh (.inl ⟨_, List.mem_cons_of_mem _ (List.mem_cons_self ..), cel_dom.2 rfl⟩)
  have hx3 : ¬ r0.dom b3 := fun hh => hdis _ hh (.inl ⟨_, List.mem_cons_self .., cel_dom.2 rfl⟩)
  have hxi : ∀ x, (star (iRsIP b m l n)).dom x → ¬ r0.dom x := fun x hx hh => hdis _ hh (.inr hx)
  obtain ⟨xs, hxs⟩ : ∃ xs, (idx l k).l = xs := ⟨_, rfl⟩
  have hsat := fun {w : World} (hc : Chg r0.dom w0 w) => iatIP (idxAt ((star (iRsIP b m l n)).keep h hc hxi)) k hn
  rw [hxs] at hy hsat ⊢
  show Calls _ _ #[.func (.yield L) #[] #[], ptr b2, ptr b3] w0 _
  have us := Tryz.underlying267
  refine calls_x (args := [_, _, _]) tabOk Tryz.func242 Tryz.ntmps242 Tryz.results242 rfl (Nat.le_of_ble_eq_true rfl) ?_
  ((conv => whnf); repeat' ((first | ((with_reducible refine ld_id ?_); ((refine ld_of (hp.chg.cell (cell_of_heap (cel_ok.1 h2) rfl) hx2) ?_))) | ((with_reducible refine ldn_id ?_); ((refine ldn_heap (hp.chg.heap (cel_ok.1 h3) hx3) rfl ?_)))) <;> (conv => whnf)))
  refine cl_eq (hsat hp.chg) rfl rfl ?_
  rintro e w ⟨r, hr, rfl, hm⟩
  replace hp := hp.add hm
  clear hm
  refine ⟨_, rfl, ?_⟩
  subst hr
  have hmax : r.l.length ≤ 9223372036854775807 := by have := (hp.row (j := 0) rfl).le; have := (hp.row (j := 0) rfl).max; simp only [maxLen] at this; omega
  ((conv => whnf); repeat' (((with_reducible refine gen_id ?_); (apply gen_len; exact rfl; exact rfl; assumption)) <;> (conv => whnf)))
  refine lp_inv (α := Nat) (fun i => [(0, .func (.yield L) #[] #[]), (8, r.v), (9, i64 r.l.length), (10, i64 i)]) (fun i w => i ≤ r.l.length ∧ ∃ q, R i q ∧ Hp r0.dom w0 w [rowR 164 2 Plc.c r, q]) (fun i => r.l.length - i) 0 (by (repeat' (first | exact trivial | (refine ⟨rfl, ?_⟩)))) ⟨by omega, r0, hR0, hp⟩ ?_
  clear hp
  rintro i e0 w ⟨hi, q, hq, hp⟩
  dsimp only at hi hp ⊢
  rcases Nat.lt_or_ge i r.l.length with hlt | hge
  · obtain ⟨bb, oo, y, hA, hbb, hrow, hyy⟩ := (hp.row (j := 0) rfl).has hlt
    ((conv => whnf); repeat' ((first | ((with_reducible refine br_id ?_); ((with_reducible refine br_dec (fun hx => ?_) (fun hx => ?_)) <;> (try (exfalso; first | omega | exact absurd hx (by assumption) | exact absurd (by assumption) hx)))) | ((with_reducible refine cn_id ?_); (refine cn rfl ?_)) | ((with_reducible refine ldn_id ?_); first | ((refine ldn_ownx hp 0 rfl (by assumption) _ rfl (by assumption) rfl ?_)) | (apply lda_hs hp; (focus ((repeat (first | exact Has.here | apply Has.there)); done)); exact rfl)) | ((with_reducible refine al_id ?_); (refine al_cel hp ?_; clear hp; intro bb w hp)) | ((with_reducible refine st_id ?_); (apply sta_hs hp; (focus ((repeat (first | exact Has.here | apply Has.there)); done)); exact rfl; exact rfl; clear hp; intro w hp; (try dsimp only [List.set] at hp))) | ((with_reducible refine gen_id ?_); ((refine gen_ixs rfl rfl (by assumption) rfl rfl (by omega) ?_)))) <;> (conv => whnf)))
    refine yl_of (hy i y w q hq hyy (hp.shut1 (j := 2) rfl)) rfl ?_
    rintro e w (⟨rfl, q', hq', hm⟩ | ⟨rfl, q', hq', hm⟩)
    · replace hp := hp.via (j := 2) rfl hm
      dsimp only [List.set] at hp
      refine ⟨_, rfl, ?_⟩
      ((conv => whnf); repeat' ((first | ((with_reducible refine br_id ?_); first | (with_reducible refine br_t ?_) | (with_reducible refine br_not ?_)) | ((with_reducible refine ar_id ?_); (refine ar_i64 (by omega) ?_))) <;> (conv => whnf)))
      exact lp_next (i + 1) (by show r.l.length - (i + 1) < r.l.length - i; omega) (by (repeat' (first | exact trivial | (refine ⟨rfl, ?_⟩)))) ⟨by show i + 1 ≤ _; omega, q', hq', hp.tail⟩
    · replace hp := hp.via (j := 2) rfl hm
      dsimp only [List.set] at hp
      refine ⟨_, rfl, ?_⟩
      ((conv => whnf); repeat' (((with_reducible refine br_id ?_); first | (with_reducible refine br_f ?_) | (with_reducible refine br_not ?_)) <;> (conv => whnf)))
      exact ps_of ⟨⟨_, rfl⟩, .inr ⟨i, q', hlt, hq', hp.shut1 (j := 2) rfl⟩⟩
  · ((conv => whnf); repeat' (((with_reducible refine br_id ?_); ((with_reducible refine br_dec (fun hx => ?_) (fun hx => ?_)) <;> (try (exfalso; first | omega | exact absurd hx (by assumption) | exact absurd (by assumption) hx)))) <;> (conv => whnf)))
    have : i = r.l.length := by omega
    subst this
    exact ps_of ⟨⟨_, rfl⟩, .inl ⟨q, hq, hp.shut1 (j := 1) rfl⟩⟩
theorem ihasIP {w0 : World} {b m : Nat} {l : List (Id × Sl Plc)} {n : Int} (h : (star (iRsIP b m l n)).ok w0) (k : Id) (v : Plc) (hn : (idx l k).l.length ≤ 1000000) : Calls Tryz.prog 186 #[ptr b, Id.v k, Plc.v v] w0 fun e w' => e = .returned (.bool (decide (v ∈ (idx l k).l))) ∧ Chg N0 w0 w' := by
  have hp := Hp.start (S := N0) w0
  obtain ⟨xs, hxs⟩ : ∃ xs, (idx l k).l = xs := ⟨_, rfl⟩
  refine calls_x (args := [_, _, _]) tabOk Tryz.func186 Tryz.ntmps186 Tryz.results186 rfl (Nat.le_of_ble_eq_true rfl) ?_
  ((conv => whnf); repeat' ((first | ((with_reducible refine ldn_id ?_); (apply lda_hs hp; (focus ((repeat (first | exact Has.here | apply Has.there)); done)); exact rfl)) | ((with_reducible refine al_id ?_); (refine al_cel hp ?_; clear hp; intro bb w hp))) <;> (conv => whnf)))
  rename_i b5 w5
  obtain ⟨rest, hp⟩ : ∃ rest, Hp N0 w0 w (cel bb 4 #[.bool false] :: cel b5 164 (Plc.c v).toArray :: rest) := ⟨_, hp⟩
  obtain ⟨b6, hb6⟩ : ∃ x, x = bb := ⟨_, rfl⟩
  subst hb6
  refine cl_eq (ieachIP b k) rfl rfl ?_
  rintro e w ⟨b2, b3, rfl, hm⟩
  replace hp := (hp.add hm).unfold
  clear hm
  refine ⟨_, rfl, ?_⟩
  ((conv => whnf); repeat' ((first | ((with_reducible refine br_id ?_); first | (with_reducible refine br_t ?_) | (with_reducible refine br_f ?_) | (with_reducible refine br_not ?_) | ((with_reducible refine br_dec (fun hx => ?_) (fun hx => ?_)) <;> (try (exfalso; first | omega | exact absurd hx (by assumption) | exact absurd (by assumption) hx))) | ((with_reducible refine br_eq (fun hx => ?_) (fun hx => ?_)) <;> (try (exfalso; first | omega | exact absurd hx (by assumption) | exact absurd (by assumption) hx))) | ((with_reducible refine br_ne (fun hx => ?_) (fun hx => ?_)) <;> (try (exfalso; first | omega | exact absurd hx (by assumption) | exact absurd (by assumption) hx))) | ((with_reducible refine br_s (fun hx => ?_) (fun hx => ?_)) <;> (try (exfalso; first | omega | exact absurd hx (by assumption) | exact absurd (by assumption) hx)))) | ((with_reducible refine ar_id ?_); first | (refine ar_i64 (by omega) ?_) | (refine ar_u32 (by omega) ?_) | (refine ar_u64 (by omega) ?_) | (refine ar_u8 (by omega) ?_)) | ((with_reducible refine cn_id ?_); first | (refine cn rfl ?_) | (refine cn (by assumption) ?_) | (refine cn (by omega) ?_) | (refine cn (Chg.refl _ _) ?_)) | ((with_reducible refine ld_id ?_); first | (apply ld_hs hp; (focus ((repeat (first | exact Has.here | apply Has.there)); done)); exact rfl) | (refine ld_of (by assumption) ?_)) | ((with_reducible refine ldn_id ?_); first | (apply lda_hs hp; (focus ((repeat (first | exact Has.here | apply Has.there)); done)); exact rfl) | (apply ldn_hs hp; (focus ((repeat (first | exact Has.here | apply Has.there)); done)); exact rfl; exact rfl)) | ((with_reducible refine al_id ?_); (refine al_cel hp ?_; clear hp; intro bb w hp)) | ((with_reducible refine st_id ?_); first | (apply sta_hs hp; (focus ((repeat (first | exact Has.here | apply Has.there)); done)); exact rfl; exact rfl; clear hp; intro w hp; (try dsimp only [List.set] at hp)) | (apply st_hs hp; (focus ((repeat (first | exact Has.here | apply Has.there)); done)); exact rfl; exact rfl; clear hp; intro w hp; (try dsimp only [List.set] at hp))) | ((with_reducible refine gen_id ?_); first | (apply gen_build; exact rfl; exact rfl) | (apply gen_len; exact rfl; exact rfl; assumption) | (apply gen_min; exact rfl; exact rfl; exact rfl) | (apply gen_max; exact rfl; exact rfl; exact rfl) | (apply gen_ix; exact rfl; exact rfl; exact rfl; exact rfl; omega) | (apply gen_ixa; exact rfl; exact rfl; exact rfl; exact rfl; omega)) | ((with_reducible refine dr_id ?_); first | (refine dr_auto tabOk (by kernel_rfl) (by decide +kernel) ?_; (try replace hp := hp.drew)) | (refine dr_autog tabOk (by kernel_rfl) (by decide +kernel) ?_; (try replace hp := hp.drew)) | (refine dr_autot tabOk (by kernel_rfl) (by decide +kernel) ?_; (try replace hp := hp.drew))) | ((with_reducible refine fk_id ?_); (refine fk_mk ?_ ?_)) | ((with_reducible refine bg_id ?_); first | ((refine bg_hs hp 0 rfl ?_); clear hp; intro w hp; (try dsimp only [List.set] at hp)) | ((refine bg_hs hp 1 rfl ?_); clear hp; intro w hp; (try dsimp only [List.set] at hp)) | ((refine bg_hs hp 2 rfl ?_); clear hp; intro w hp; (try dsimp only [List.set] at hp)) | ((refine bg_hs hp 3 rfl ?_); clear hp; intro w hp; (try dsimp only [List.set] at hp)) | ((refine bg_hs hp 4 rfl ?_); clear hp; intro w hp; (try dsimp only [List.set] at hp)) | ((refine bg_hs hp 5 rfl ?_); clear hp; intro w hp; (try dsimp only [List.set] at hp))) | ((with_reducible refine td_id ?_); first | ((refine td_hs hp 0 rfl ?_); clear hp; intro w hp; (try dsimp only [List.set] at hp)) | ((refine td_hs hp 1 rfl ?_); clear hp; intro w hp; (try dsimp only [List.set] at hp)) | ((refine td_hs hp 2 rfl ?_); clear hp; intro w hp; (try dsimp only [List.set] at hp)) | ((refine td_hs hp 3 rfl ?_); clear hp; intro w hp; (try dsimp only [List.set] at hp)) | ((refine td_hs hp 4 rfl ?_); clear hp; intro w hp; (try dsimp only [List.set] at hp)) | ((refine td_hs hp 5 rfl ?_); clear hp; intro w hp; (try dsimp only [List.set] at hp)) | ((refine td_hs hp 6 rfl ?_); clear hp; intro w hp; (try dsimp only [List.set] at hp)) | ((refine td_hs hp 7 rfl ?_); clear hp; intro w hp; (try dsimp only [List.set] at hp))) | ((with_reducible refine rd_id ?_); first | (apply rd_len; exact rfl; exact rfl; assumption) | (apply rd_ix; exact rfl; exact rfl; exact rfl; exact rfl; omega))) <;> (conv => whnf)))
  have hst : (star (iRsIP b m l n)).ok w := (star (iRsIP b m l n)).keep0 h hp.chg
  have hit := fun (w1 : World) (hc : Chg N0 w w1) => iiterIP (k := k) ((star (iRsIP b m l n)).keep0 hst hc) ((cel b3 44 (Id.c k).toArray).keep0 (hp.get (j := 0) rfl) hc) ((cel b2 161 #[ptr b]).keep0 (hp.get (j := 1) rfl) hc) hn
  have hp2 := hp.tail.tail.sub (List.take_sublist 2 _)
  have hp3 : Hp N0 w0 w (iEachIP b b2 b3 k ++ List.take 2 (cel b6 4 #[.bool false] :: cel b5 164 (Plc.c v).toArray :: rest)) := hp.sub ((List.take_sublist 2 _).append_left (iEachIP b b2 b3 k))
  have hT := iter_at (T := (star (iRsIP b m l n)).dom) hp3 fun x hx => ⟨(star (iRsIP b m l n)).lt w0 h x hx, fun hh => hh⟩
  rw [hxs] at hit ⊢
  refine rf_iter (es := fun y => [(11, Plc.v y)]) (rsI := fun i q => (∀ y ∈ xs.take i, y ≠ v) ∧ q = [cel b6 4 #[.bool false], cel b5 164 (Plc.c v).toArray]) (rsX := fun _ q => v ∈ xs ∧ q = [cel b6 4 #[.bool true], cel b5 164 (Plc.c v).toArray]) hp2 (by kernel_rfl) (by kernel_rfl) rfl (enters tabOk (by kernel_rfl)) (fun _ => rfl) (fun _ => zip1 _ _) hT hit ⟨by simp, rfl⟩ .ret ⟨_, rfl⟩ ?_ ?_ ?_
  · clear hp hp2 hp3 hT hit
    rintro i y L D o o' W _ ⟨hno, rfl⟩ hy hc hown hp
    ((conv => whnf); repeat' ((first | ((with_reducible refine br_id ?_); ((with_reducible refine br_s (fun hx => ?_) (fun hx => ?_)) <;> (try (exfalso; first | omega | exact absurd hx (by assumption) | exact absurd (by assumption) hx)))) | ((with_reducible refine cn_id ?_); (refine cn rfl ?_)) | ((with_reducible refine ldn_id ?_); (apply lda_hs hp; (focus ((repeat (first | exact Has.here | apply Has.there)); done)); exact rfl)) | ((with_reducible refine al_id ?_); (refine al_cel hp ?_; clear hp; intro bb w hp)) | ((with_reducible refine st_id ?_); (apply sta_hs hp; (focus ((repeat (first | exact Has.here | apply Has.there)); done)); exact rfl; exact rfl; clear hp; intro w hp; (try dsimp only [List.set] at hp))) | ((with_reducible refine gen_id ?_); ((refine gen_eqa rfl rfl rfl (eq_plc y v) (by kernel_rfl) (.inl rfl) ?_))) | ((with_reducible refine bg_id ?_); ((refine bg_hs hp 1 rfl ?_); clear hp; intro w hp; (try dsimp only [List.set] at hp)))) <;> (conv => whnf)))
    · have hx' : y = v := by simpa using hx
      exact bo ⟨rfl, _, ⟨hx' ▸ List.mem_of_getElem? hy, rfl⟩, hp.tail⟩
    · refine bo ⟨_, ⟨fun z hz => ?_, rfl⟩, hp.tail⟩
      rw [List.take_add_one, hy] at hz
      rcases List.mem_append.1 hz with hz | hz
      · exact hno z hz
      · simp at hz
        subst hz
        have hx' : ¬ z = v := by simpa using hx
        exact hx'
  · clear hp hp2 hp3 hT hit
    rintro L D o W _ ⟨hf, rfl⟩ hp
    rw [List.take_length] at hf
    ((conv => whnf); repeat' ((first | ((with_reducible refine cn_id ?_); (refine cn rfl ?_)) | ((with_reducible refine ld_id ?_); (apply ld_hs hp; (focus ((repeat (first | exact Has.here | apply Has.there)); done)); exact rfl)) | ((with_reducible refine st_id ?_); (apply sta_hs hp; (focus ((repeat (first | exact Has.here | apply Has.there)); done)); exact rfl; exact rfl; clear hp; intro w hp; (try dsimp only [List.set] at hp))) | ((with_reducible refine td_id ?_); ((refine td_hs hp 1 rfl ?_); clear hp; intro w hp; (try dsimp only [List.set] at hp)))) <;> (conv => whnf)))
    exact ps_val (v' := .bool false) rfl ⟨by rw [decide_eq_false fun hh => hf v hh rfl], hp.chg⟩
  · clear hp hp2 hp3 hT hit
    rintro i L D o W _ hi ⟨hf, rfl⟩ hp
    ((conv => whnf); repeat' ((first | ((with_reducible refine ld_id ?_); (apply ld_hs hp; (focus ((repeat (first | exact Has.here | apply Has.there)); done)); exact rfl)) | ((with_reducible refine td_id ?_); ((refine td_hs hp 1 rfl ?_); clear hp; intro w hp; (try dsimp only [List.set] at hp)))) <;> (conv => whnf)))
    exact ps_val (v' := .bool true) rfl ⟨by rw [decide_eq_true hf], hp.chg⟩
end Go.Proofs.YteabebmlclgakaaGreat
