
/- OpenP (a twin of Open, for programs without keys and jobs): arguments of the plain types, opened: what they are, and where their memory lies. No condition. -/
import Derived.Test.YthcapeihhldpcaaTypes
import Derived.Test.YthcapeihhldpcaaEqI
import Derived.Test.YthcapeihhldpcaaLaw
namespace Go.Proofs.Ythcapeihhldpcaa
set_option linter.unusedSimpArgs false
set_option linter.unusedVariables false
open Go.RowKit
set_option maxRecDepth 100000
set_option maxHeartbeats 2000000

section
variable {H : Type}
/-- cells that can be read as a type -/
def Rdb (enc : TypeId × Value → H) (P : Program) (w : World) (t : TypeId) (cs : List Value) : Prop := ∃ fuel x, DataW.trod enc P w 0 (fun _ => true) true fuel t cs = some x
variable {enc : TypeId × Value → H} {P : Program} {w : World} {t e : TypeId} {cs : List Value}
theorem rdb_of {v : Value} {d : DataW H} {ps : List MemPlace} (h : DataW.Trod enc P w 0 (fun _ => true) true t v d ps) : Rdb enc P w t v.cells.toList := h.imp fun _ h => ⟨_, h⟩
theorem rdb_int {k : IntKind} (ht : P.underlying t = some (.int k)) (h : Rdb enc P w t cs) : ∃ n, cs = [.int k n] ∧ (Lit.int k n).wf = true := by
  obtain ⟨_, _, h⟩ := h
  obtain ⟨n, h1, _, h2⟩ := DataW.trod_int ht h
  exact ⟨n, h1, h2⟩
theorem rdb_bool (ht : P.underlying t = some .bool) (h : Rdb enc P w t cs) : ∃ b, cs = [.bool b] := by
  obtain ⟨_, _, h⟩ := h
  obtain ⟨n, h1, _⟩ := DataW.trod_bool ht h
  exact ⟨n, h1⟩
theorem rdb_struct {fs : Array Field} (ht : P.underlying t = some (.struct fs)) (h : Rdb enc P w t cs) : cs.length = P.cellsOf t ∧ ∀ (i : Nat) f, fs[i]? = some f → Rdb enc P w f.type ((cs.drop f.offset).take (P.cellsOf f.type)) := by
  obtain ⟨_, _, h⟩ := h
  obtain ⟨xs, n, _, _, hl, hx, hf⟩ := DataW.trod_struct ht h
  refine ⟨hl, fun i f hi => ?_⟩
  have hlt : i < xs.length := by rw [hx]; exact (Array.getElem?_eq_some_iff.1 hi).1
  exact ⟨n, xs[i], by rw [hf i f hi, List.getElem?_eq_getElem hlt]⟩
theorem rdb_array {n : Nat} (ht : P.underlying t = some (.array n e)) (h : Rdb enc P w t cs) : cs.length = P.cellsOf t ∧ ∀ (i : Nat), i < n → Rdb enc P w e ((cs.drop (i * P.cellsOf e)).take (P.cellsOf e)) := by
  obtain ⟨_, _, h⟩ := h
  obtain ⟨xs, m, _, _, hl, hx, hf⟩ := DataW.trod_array ht h
  refine ⟨hl, fun i hi => ?_⟩
  have hlt : i < xs.length := by rw [hx]; exact hi
  exact ⟨m, xs[i], by rw [hf i hi, List.getElem?_eq_getElem hlt]⟩
theorem mapM_all {α β : Type} {f : α → Option β} : ∀ {l : List α} {r : List β}, l.mapM f = some r → ∀ (i : Nat) x, l[i]? = some x → ∃ y, r[i]? = some y ∧ f x = some y := fun h i x hi => by
  have h1 := mapM_some_get h i x hi
  have hl := mapM_some_length h
  have hlt : i < _ := (List.getElem?_eq_some_iff.1 hi).1
  have h2 := List.getElem?_eq_getElem (show i < _ by rw [hl]; exact hlt)
  exact ⟨_, h2, h1.trans h2⟩
theorem cells_of {a : Addr} {n : Nat} {l : List Value} (h : w.cells? 0 a n = some l) : l.length = n ∧ ∀ (j : Nat) v, l[j]? = some v → w.cell? (a.add j) = some v := by
  unfold World.cells? at h
  rw [if_pos (Nat.zero_le _)] at h
  have hl := mapM_some_length h
  rw [List.length_range] at hl
  refine ⟨hl, fun j v hj => ?_⟩
  have hlt : j < n := by rw [← hl]; exact (List.getElem?_eq_some_iff.1 hj).1
  obtain ⟨y, hy, h1⟩ := mapM_all h j j (by simp [hlt])
  rw [hj] at hy
  cases hy
  exact h1
theorem cell_lt {a : Addr} {v : Value} (h : w.cell? a = some v) : a.block < w.heap.size ∧ a.spot = none := by
  unfold World.cell? at h
  split at h
  · rename_i c _ _ hb
    split at h
    · cases h
    · rename_i hs
      exact ⟨(Array.getElem?_eq_some_iff.1 hb).1, by simpa using hs⟩
  · cases h
/-- a slice: its elements opened one for one -/
theorem rdb_slice {α : Type} {ec : α → List Value} {sz : Nat} {Q : α → Prop} (ht : P.underlying t = some (.slice e)) (hsz : P.cellsOf e = sz) (h0 : 0 < sz) (dec : ∀ c, c.length = sz → Rdb enc P w e c → ∃ x, c = ec x ∧ Q x) (h : Rdb enc P w t cs) :
    ∃ s : Sl α, cs = [s.v] ∧ SlAt w.heap.size w ec sz s ∧ ∀ x ∈ s.l, Q x := by
  obtain ⟨_, _, h⟩ := h
  rcases DataW.trod_slice ht h with ⟨rfl, _⟩ | ⟨a, len, cap, elems, rest, n, _, rfl, _, _, hl, hc, hel, he, _⟩
  · exact ⟨Sl.nil, rfl, .none_, fun x hx => by simp [Sl.nil] at hx⟩
  rw [hsz] at he
  have each : ∀ i, i < len → ∃ x, Q x ∧ (ec x).length = sz ∧ ∀ (j : Nat) v, (ec x)[j]? = some v → w.cell? ((a.add (i * sz)).add j) = some v := fun i hi => by
    have h1 := he i hi
    have h2 := List.getElem?_eq_getElem (show i < elems.length by omega)
    rw [h2] at h1
    obtain ⟨c, hc1, hc2⟩ := Option.bind_eq_some_iff.1 h1
    obtain ⟨hcl, hcell⟩ := cells_of hc1
    obtain ⟨x, rfl, hq⟩ := dec c hcl ⟨_, _, hc2⟩
    exact ⟨x, hq, hcl, hcell⟩
  have build : ∀ k, k ≤ len → ∃ l : List α, l.length = k ∧ (∀ x ∈ l, Q x) ∧ ∀ (i : Nat) x, l[i]? = some x → (ec x).length = sz ∧ ∀ (j : Nat) v, (ec x)[j]? = some v → w.cell? ((a.add (i * sz)).add j) = some v := by
    intro k
    induction k with
    | zero => exact fun _ => ⟨[], rfl, by simp, by simp⟩
    | succ k ih =>
      intro hk
      obtain ⟨l, h1, h2, h3⟩ := ih (by omega)
      obtain ⟨x, hq, hxl, hx⟩ := each k (by omega)
      refine ⟨l ++ [x], by simp [h1], fun y hy => ?_, fun i y hi => ?_⟩
      · rcases List.mem_append.1 hy with hy | hy
        · exact h2 y hy
        · simp at hy; subst hy; exact hq
      · by_cases hik : i < k
        · rw [List.getElem?_append_left (by omega)] at hi
          exact h3 i y hi
        · rw [List.getElem?_append_right (by omega)] at hi
          have : i = k := by
            have := (List.getElem?_eq_some_iff.1 hi).1
            simp at this
            omega
          subst this
          simp [h1] at hi
          subst hi
          exact ⟨hxl, hx⟩
  obtain ⟨l, h1, h2, h3⟩ := build len (Nat.le_refl _)
  refine ⟨⟨some a, cap, l⟩, by simp [Sl.v, h1], ⟨by show l.length ≤ cap; omega, hc, (fun hh => by cases hh), fun hne => ?_⟩, h2⟩
  have hne' : l ≠ [] := hne
  obtain ⟨x, r, rfl⟩ : ∃ x r, l = x :: r := by
    cases l with
    | nil => exact (hne' rfl).elim
    | cons x r => exact ⟨x, r, rfl⟩
  obtain ⟨hxl, hx⟩ := h3 0 x rfl
  have hc0 := hx 0 (ec x)[0] (List.getElem?_eq_getElem (by omega))
  simp only [Nat.zero_mul, Addr.add, if_true] at hc0
  obtain ⟨hlt, hsp⟩ := cell_lt hc0
  obtain ⟨b, o, sp⟩ := a
  have hsp' : sp = none := hsp
  subst hsp'
  refine ⟨b, o, rfl, hlt, fun i y hi j v hj => ?_⟩
  have := (h3 i y hi).2 j v hj
  rwa [add_plain, add_plain] at this
theorem drop_split (l : List Value) (o n : Nat) : l.drop o = (l.drop o).take n ++ l.drop (o + n) := by
  rw [← List.drop_drop, List.take_append_drop]
end

theorem rdb_u8s {H : Type} {enc : TypeId × Value → H} {w : World} {t : TypeId} {n : Nat} {cs : List Value} (ht : Try.prog.underlying t = some (.array n 5)) (hn : Try.prog.cellsOf t = n) (h : Rdb enc Try.prog w t cs) : ∃ l : List UInt8, l.length = n ∧ cs = l.map u8 := by
  obtain ⟨hl, he⟩ := rdb_array ht h
  rw [hn] at hl
  have hc : Try.prog.cellsOf 5 = 1 := by kernel_rfl
  rw [hc] at he
  have each : ∀ i, i < n → ∃ x : UInt8, cs[i]? = some (u8 x) := fun i hi => by
    obtain ⟨m, h1, hw⟩ := rdb_int Try.underlying5 (he i hi)
    obtain ⟨k, rfl, hk⟩ := lit_u8 hw
    refine ⟨UInt8.ofNat k, ?_⟩
    have h2 : ((cs.drop (i * 1)).take 1)[0]? = some (.int .u8 (k : Int)) := by rw [h1]; rfl
    rw [List.getElem?_take_of_lt (by omega), List.getElem?_drop] at h2
    simp only [Nat.mul_one, Nat.add_zero] at h2
    rw [h2]
    have : (UInt8.ofNat k).toNat = k := by simp; omega
    rw [show u8 (UInt8.ofNat k) = .int .u8 ((UInt8.ofNat k).toNat : Int) from rfl, this]
  refine ⟨(List.range n).map fun i => match cs[i]? with | some (Value.int _ m) => UInt8.ofNat m.toNat | _ => 0, by simp, ?_⟩
  apply List.ext_getElem?
  intro i
  by_cases hi : i < n
  · obtain ⟨x, hx⟩ := each i hi
    have : UInt8.ofNat (x.toNat : Int).toNat = x := by simp
    simp [hx, hi]
  · rw [List.getElem?_eq_none (by omega), List.getElem?_eq_none (by simp; omega)]
theorem rdb_id {H : Type} {enc : TypeId × Value → H} {w : World} {cs : List Value} (h : Rdb enc Try.prog w 55 cs) : ∃ x : Id, cs = x.c := by
  obtain ⟨l, hl, rfl⟩ := rdb_u8s (n := 32) (by kernel_rfl) (by kernel_rfl) h
  refine ⟨⟨l.toArray, by simp [hl]⟩, ?_⟩
  have := congrArg Array.toList (Id.cells ⟨l.toArray, by simp [hl]⟩)
  rw [List.toList_toArray, List.toList_toArray] at this
  exact this
theorem rdb_u32 {H : Type} {enc : TypeId × Value → H} {w : World} {cs : List Value} (h : Rdb enc Try.prog w 27 cs) : ∃ x : UInt32, cs = [u32 x] := by
  obtain ⟨n, rfl, hw⟩ := rdb_int Try.underlying27 h
  obtain ⟨x, rfl⟩ := lit_u32 hw
  exact ⟨x, rfl⟩
theorem rdb_i64 {H : Type} {enc : TypeId × Value → H} {w : World} {cs : List Value} (h : Rdb enc Try.prog w 3 cs) : ∃ x : Int, cs = [i64 x] ∧ -9223372036854775808 ≤ x ∧ x ≤ 9223372036854775807 := by
  obtain ⟨n, rfl, hw⟩ := rdb_int Try.underlying3 h
  exact ⟨n, rfl, lit_i64 hw⟩
theorem rdb_bytes {H : Type} {enc : TypeId × Value → H} {w : World} {cs : List Value} (h : Rdb enc Try.prog w 94 cs) : ∃ s : Bytes, cs = [s.v] ∧ SlAt w.heap.size w u8L 1 s := by
  obtain ⟨s, h1, h2, _⟩ := rdb_slice (ec := u8L) (sz := 1) (Q := fun _ => True) Try.underlying94 (by kernel_rfl) (by omega) (fun c _ hc => by
    obtain ⟨n, rfl, hw⟩ := rdb_int Try.underlying5 hc
    obtain ⟨k, rfl, hk⟩ := lit_u8 hw
    refine ⟨UInt8.ofNat k, ?_, trivial⟩
    have : (UInt8.ofNat k).toNat = k := by simp; omega
    rw [show u8L (UInt8.ofNat k) = [.int .u8 ((UInt8.ofNat k).toNat : Int)] from rfl, this]) h
  exact ⟨s, h1, h2⟩
theorem agg_arg {H : Type} {enc : TypeId × Value → H} {P : Program} {w : World} {r : Reach} {b0 : Nat} {t : TypeId} {v : Value} {d : DataW H} {ps : List MemPlace} (hs : (match P.underlying t with | some (.struct _) | some (.array _ _) => true | _ => false) = true) (hval : Value.okWide P w r b0 t v) (h : DataW.Trod enc P w 0 (fun _ => true) true t v d ps) :
    ∃ cs : List Value, v = .agg cs.toArray ∧ Rdb enc P w t cs := by
  have h1 := rdb_of h
  unfold Value.okWide at hval
  split at hval
  · obtain ⟨cs, rfl, _⟩ := hval
    exact ⟨cs.toList, rfl, h1⟩
  · obtain ⟨cs, rfl, _⟩ := hval
    exact ⟨cs.toList, rfl, h1⟩
  · rename_i h2 h3
    split at hs
    · rename_i fs hu; exact (h2 fs hu).elim
    · rename_i n e hu; exact (h3 n e hu).elim
    · cases hs
theorem slice_arg {H : Type} {enc : TypeId × Value → H} {P : Program} {w : World} {r : Reach} {b0 : Nat} {t e : TypeId} {v : Value} {d : DataW H} {ps : List MemPlace} (ht : P.underlying t = some (.slice e)) (hval : Value.okWide P w r b0 t v) (h : DataW.Trod enc P w 0 (fun _ => true) true t v d ps) : Rdb enc P w t [v] := by
  have h1 := rdb_of h
  obtain ⟨a, n, c, rfl⟩ := Go.WideShapes.okWide_slice ht hval
  exact h1
end Go.Proofs.Ythcapeihhldpcaa
