/- MImprintRests7: Types, EqI, OpenP, ElId, BlkT, OpenK, Up, Blob. -/
import Derived.Test.YteabebmlclgakaaGreatMImprintRestssTab
import Derived.Stop.BytesEq
import Derived.Test.YteabebmlclgakaaGreatMImprintRests1
import Derived.Test.YteabebmlclgakaaGreatMImprintRestssSlice
import Derived.Test.YteabebmlclgakaaGreatRows
/- Types: the program's plain types as values. No condition. -/
namespace Go.Proofs.YteabebmlclgakaaGreat
set_option linter.unusedSimpArgs false
set_option linter.unusedVariables false
open Go.RowKit
set_option maxRecDepth 100000
set_option maxHeartbeats 2000000
abbrev ptr (b : Nat) : Value := .pointer (some ⟨b, 0, none⟩)
abbrev errno (n : Nat) : Value := .int .i64 n
abbrev i64 (n : Int) : Value := .int .i64 n
abbrev Id := Vector UInt8 32
abbrev Hint := Vector UInt8 16
abbrev Id.c (x : Id) : List Value := (u8 x[0] :: u8 x[1] :: u8 x[2] :: u8 x[3] :: u8 x[4] :: u8 x[5] :: u8 x[6] :: u8 x[7] :: u8 x[8] :: u8 x[9] :: u8 x[10] :: u8 x[11] :: u8 x[12] :: u8 x[13] :: u8 x[14] :: u8 x[15] :: u8 x[16] :: u8 x[17] :: u8 x[18] :: u8 x[19] :: u8 x[20] :: u8 x[21] :: u8 x[22] :: u8 x[23] :: u8 x[24] :: u8 x[25] :: u8 x[26] :: u8 x[27] :: u8 x[28] :: u8 x[29] :: u8 x[30] :: u8 x[31] :: [])
abbrev Hint.c (x : Hint) : List Value := (u8 x[0] :: u8 x[1] :: u8 x[2] :: u8 x[3] :: u8 x[4] :: u8 x[5] :: u8 x[6] :: u8 x[7] :: u8 x[8] :: u8 x[9] :: u8 x[10] :: u8 x[11] :: u8 x[12] :: u8 x[13] :: u8 x[14] :: u8 x[15] :: [])
abbrev Id.v (x : Id) : Value := .agg (List.toArray (u8 x[0] :: u8 x[1] :: u8 x[2] :: u8 x[3] :: u8 x[4] :: u8 x[5] :: u8 x[6] :: u8 x[7] :: u8 x[8] :: u8 x[9] :: u8 x[10] :: u8 x[11] :: u8 x[12] :: u8 x[13] :: u8 x[14] :: u8 x[15] :: u8 x[16] :: u8 x[17] :: u8 x[18] :: u8 x[19] :: u8 x[20] :: u8 x[21] :: u8 x[22] :: u8 x[23] :: u8 x[24] :: u8 x[25] :: u8 x[26] :: u8 x[27] :: u8 x[28] :: u8 x[29] :: u8 x[30] :: u8 x[31] :: []))
abbrev Hint.v (x : Hint) : Value := .agg (List.toArray (u8 x[0] :: u8 x[1] :: u8 x[2] :: u8 x[3] :: u8 x[4] :: u8 x[5] :: u8 x[6] :: u8 x[7] :: u8 x[8] :: u8 x[9] :: u8 x[10] :: u8 x[11] :: u8 x[12] :: u8 x[13] :: u8 x[14] :: u8 x[15] :: []))
abbrev Bytes := Sl UInt8
structure Key where
  ses : UInt32
  seq : UInt32
  deriving DecidableEq
abbrev Key.c (k : Key) : List Value := [u32 k.ses, u32 k.seq]
abbrev Key.v (k : Key) : Value := .agg #[u32 k.ses, u32 k.seq]
structure Tier where
  fee : UInt32
  tx : Bytes
abbrev Tier.c (t : Tier) : List Value := [u32 t.fee, t.tx.v]
abbrev Tier.v (t : Tier) : Value := .agg #[u32 t.fee, t.tx.v]
abbrev Payload := Sl Tier
abbrev Payload.pv (p : Payload) : Value := .agg #[p.v]
/-- a payload's memory -/
structure PayAt (B : Nat) (w : World) (p : Payload) : Prop where
  row : SlAt B w Tier.c 2 p
  tx : ∀ t ∈ p.l, SlAt B w u8L 1 t.tx
theorem PayAt.keep {S : Nat → Prop} {B : Nat} {w w' : World} {p : Payload} (h : PayAt B w p) (hc : Chg S w w') (hB : ∀ b, S b → B ≤ b) : PayAt B w' p := ⟨h.row.keep hc hB, fun t ht => (h.tx t ht).keep hc hB⟩
structure Job where
  key : Key
  breach : Id
  height : UInt32
  mined : UInt32
  live : Int
  pay : Payload
abbrev Job.c (j : Job) : List Value := (u32 j.key.ses :: u32 j.key.seq :: u8 j.breach[0] :: u8 j.breach[1] :: u8 j.breach[2] :: u8 j.breach[3] :: u8 j.breach[4] :: u8 j.breach[5] :: u8 j.breach[6] :: u8 j.breach[7] :: u8 j.breach[8] :: u8 j.breach[9] :: u8 j.breach[10] :: u8 j.breach[11] :: u8 j.breach[12] :: u8 j.breach[13] :: u8 j.breach[14] :: u8 j.breach[15] :: u8 j.breach[16] :: u8 j.breach[17] :: u8 j.breach[18] :: u8 j.breach[19] :: u8 j.breach[20] :: u8 j.breach[21] :: u8 j.breach[22] :: u8 j.breach[23] :: u8 j.breach[24] :: u8 j.breach[25] :: u8 j.breach[26] :: u8 j.breach[27] :: u8 j.breach[28] :: u8 j.breach[29] :: u8 j.breach[30] :: u8 j.breach[31] :: u32 j.height :: u32 j.mined :: i64 j.live :: j.pay.v :: [])
abbrev Job.v (j : Job) : Value := .agg (List.toArray (u32 j.key.ses :: u32 j.key.seq :: u8 j.breach[0] :: u8 j.breach[1] :: u8 j.breach[2] :: u8 j.breach[3] :: u8 j.breach[4] :: u8 j.breach[5] :: u8 j.breach[6] :: u8 j.breach[7] :: u8 j.breach[8] :: u8 j.breach[9] :: u8 j.breach[10] :: u8 j.breach[11] :: u8 j.breach[12] :: u8 j.breach[13] :: u8 j.breach[14] :: u8 j.breach[15] :: u8 j.breach[16] :: u8 j.breach[17] :: u8 j.breach[18] :: u8 j.breach[19] :: u8 j.breach[20] :: u8 j.breach[21] :: u8 j.breach[22] :: u8 j.breach[23] :: u8 j.breach[24] :: u8 j.breach[25] :: u8 j.breach[26] :: u8 j.breach[27] :: u8 j.breach[28] :: u8 j.breach[29] :: u8 j.breach[30] :: u8 j.breach[31] :: u32 j.height :: u32 j.mined :: i64 j.live :: j.pay.v :: []))
structure Sub where
  key : Key
  breach : Id
  height : UInt32
  tier : Int
  tx : Bytes
abbrev Sub.c (j : Sub) : List Value := (u32 j.key.ses :: u32 j.key.seq :: u8 j.breach[0] :: u8 j.breach[1] :: u8 j.breach[2] :: u8 j.breach[3] :: u8 j.breach[4] :: u8 j.breach[5] :: u8 j.breach[6] :: u8 j.breach[7] :: u8 j.breach[8] :: u8 j.breach[9] :: u8 j.breach[10] :: u8 j.breach[11] :: u8 j.breach[12] :: u8 j.breach[13] :: u8 j.breach[14] :: u8 j.breach[15] :: u8 j.breach[16] :: u8 j.breach[17] :: u8 j.breach[18] :: u8 j.breach[19] :: u8 j.breach[20] :: u8 j.breach[21] :: u8 j.breach[22] :: u8 j.breach[23] :: u8 j.breach[24] :: u8 j.breach[25] :: u8 j.breach[26] :: u8 j.breach[27] :: u8 j.breach[28] :: u8 j.breach[29] :: u8 j.breach[30] :: u8 j.breach[31] :: u32 j.height :: i64 j.tier :: j.tx.v :: [])
abbrev Sub.v (j : Sub) : Value := .agg (List.toArray (u32 j.key.ses :: u32 j.key.seq :: u8 j.breach[0] :: u8 j.breach[1] :: u8 j.breach[2] :: u8 j.breach[3] :: u8 j.breach[4] :: u8 j.breach[5] :: u8 j.breach[6] :: u8 j.breach[7] :: u8 j.breach[8] :: u8 j.breach[9] :: u8 j.breach[10] :: u8 j.breach[11] :: u8 j.breach[12] :: u8 j.breach[13] :: u8 j.breach[14] :: u8 j.breach[15] :: u8 j.breach[16] :: u8 j.breach[17] :: u8 j.breach[18] :: u8 j.breach[19] :: u8 j.breach[20] :: u8 j.breach[21] :: u8 j.breach[22] :: u8 j.breach[23] :: u8 j.breach[24] :: u8 j.breach[25] :: u8 j.breach[26] :: u8 j.breach[27] :: u8 j.breach[28] :: u8 j.breach[29] :: u8 j.breach[30] :: u8 j.breach[31] :: u32 j.height :: i64 j.tier :: j.tx.v :: []))
def Id.z : Id := #v[0, 0, 0, 0, 0, 0, 0, 0, 0, 0, 0, 0, 0, 0, 0, 0, 0, 0, 0, 0, 0, 0, 0, 0, 0, 0, 0, 0, 0, 0, 0, 0]
def Sub.z : Sub := ⟨⟨0, 0⟩, Id.z, 0, 0, Sl.nil⟩
theorem el_u8 : ElT Tryz.prog 38 5 1 1 := elt_of (z := .int .u8 0) Tryz.underlying38 (by kernel_rfl) rfl (by omega)
end Go.Proofs.YteabebmlclgakaaGreat
/- EqI: equality of ids; tools. No condition. -/
namespace Go.Proofs.YteabebmlclgakaaGreat
set_option linter.unusedSimpArgs false
set_option linter.unusedVariables false
open Go.RowKit
set_option maxRecDepth 100000
set_option maxHeartbeats 2000000
theorem eqis_of {P : Program} {t : TypeId} {xs ys : Array Value} {fs : Array Field} {b : Bool} (ht : P.underlying t = some (.struct fs)) (hp : P.stoodInHeld t = false) (h : ∀ w, (Op.eqFields 9999 xs ys fs.toList).run P w = .ok b w) : EqIs P t (.agg xs) (.agg ys) b := fun w => by
  have hfs : P.fieldsOf t = fs := by simp [Program.fieldsOf, ht]
  have := run_equalIn_struct (P := P) w 9999 t xs ys (by rw [hfs]; exact ht) hp
  rw [hfs, h w] at this
  exact this
theorem Id.cells (x : Id) : (x.toList.map Extern.Stop.cell).toArray = x.c.toArray := by
  have h : x.toList = (List.finRange 32).map fun i => x[i] := by
    apply List.ext_getElem
    · simp
    · intro i h1 h2; simp
  rw [h]
  rfl
theorem eq_id (x y : Id) : EqIs Tryz.prog 44 x.v y.v (decide (x = y)) := fun w => by
  have h := run_equalIn_bytes (P := Tryz.prog) w 9998 44 5 32 (by kernel_rfl) Tryz.underlying5 (fun w => by rfl) x.toList y.toList (by simp) (by simp)
  rw [Id.cells, Id.cells] at h
  have e : (x.toList == y.toList) = decide (x = y) := by
    rw [Bool.eq_iff_iff]
    simp
  rw [e] at h
  exact h
theorem eqf_nil {P : Program} {w : World} {d : Nat} {xs ys : Array Value} : (Op.eqFields d xs ys []).run P w = .ok true w := by simp [Op.eqFields]
theorem eqf_cons {P : Program} {w : World} {d : Nat} {xs ys : Array Value} {f : Field} {fs : List Field} {x y : Value} {b r : Bool} (hn : f.name ≠ "_") (hx : (part f.type xs f.offset).run P w = .ok x w) (hy : (part f.type ys f.offset).run P w = .ok y w)
    (he : (Op.equalIn d f.type x y).run P w = .ok b w) (hr : (Op.eqFields d xs ys fs).run P w = .ok r w) : (Op.eqFields d xs ys (f :: fs)).run P w = .ok (b && r) w := by
  simp only [Op.eqFields, hn, ne_eq, not_false_eq_true, if_true, Sem.run_bind, hx, hy, he, Result.andThen_ok]
  cases b
  · simp
  · simpa using hr
theorem part_word {P : Program} {w : World} {t : TypeId} {xs : Array Value} {off n : Nat} {v : Value} (hl : layOf P t = some (false, n)) (hv : xs[off]? = some v) : (part t xs off).run P w = .ok v w := by
  have h1 := (run_isAgg (w := w) hl).1
  simp [part, h1, hv]
theorem part_agg {P : Program} {w : World} {t : TypeId} {xs : Array Value} {off n : Nat} {ys : Array Value} (hl : layOf P t = some (true, n)) (hv : xs.extract off (off + n) = ys) : (part t xs off).run P w = .ok (.agg ys) w := by
  obtain ⟨h1, h2⟩ := run_isAgg (w := w) hl
  simp [part, h1, h2, hv]
theorem u32_eq (a b : UInt32) : (((a.toNat : Int) == (b.toNat : Int)) : Bool) = decide (a = b) := by
  rw [Bool.eq_iff_iff]
  simp [← UInt32.toNat_inj]
  omega
end Go.Proofs.YteabebmlclgakaaGreat
/- OpenP (a twin of Open, for programs without keys and jobs): arguments of the plain types, opened: what they are, and where their memory lies. No condition. -/
namespace Go.Proofs.YteabebmlclgakaaGreat
set_option linter.unusedSimpArgs false
set_option linter.unusedVariables false
open Go.RowKit
set_option maxRecDepth 100000
set_option maxHeartbeats 2000000
section
variable {H : Type}
/-- cells that can be read as a type -/
def Rdb (enc : TypeId × Value → H) (P : Program) (w : World) (t : TypeId) (cs : List Value) : Prop := ∃ fuel x, DataW.trod enc P w 0 (fun _ => true) true fuel t cs = some x
variable {enc : TypeId × Value → H} {P : Program} {w : World} {t e : TypeId} {cs : List Value}
theorem rdb_of {v : Value} {d : DataW H} {ps : List MemPlace} (h : DataW.Trod enc P w 0 (fun _ => true) true t v d ps) : Rdb enc P w t v.cells.toList := h.imp fun _ h => ⟨_, h⟩
theorem rdb_int {k : IntKind} (ht : P.underlying t = some (.int k)) (h : Rdb enc P w t cs) : ∃ n, cs = [.int k n] ∧ (Lit.int k n).wf = true := by
  obtain ⟨_, _, h⟩ := h
  obtain ⟨n, h1, _, h2⟩ := DataW.trod_int ht h
  exact ⟨n, h1, h2⟩
theorem rdb_bool (ht : P.underlying t = some .bool) (h : Rdb enc P w t cs) : ∃ b, cs = [.bool b] := by
  obtain ⟨_, _, h⟩ := h
  obtain ⟨n, h1, _⟩ := DataW.trod_bool ht h
  exact ⟨n, h1⟩
theorem rdb_struct {fs : Array Field} (ht : P.underlying t = some (.struct fs)) (h : Rdb enc P w t cs) : cs.length = P.cellsOf t ∧ ∀ (i : Nat) f, fs[i]? = some f → Rdb enc P w f.type ((cs.drop f.offset).take (P.cellsOf f.type)) := by
  obtain ⟨_, _, h⟩ := h
  obtain ⟨xs, n, _, _, hl, hx, hf⟩ := DataW.trod_struct ht h
  refine ⟨hl, fun i f hi => ?_⟩
  have hlt : i < xs.length := by rw [hx]; exact (Array.getElem?_eq_some_iff.1 hi).1
  exact ⟨n, xs[i], by rw [hf i f hi, List.getElem?_eq_getElem hlt]⟩
theorem rdb_array {n : Nat} (ht : P.underlying t = some (.array n e)) (h : Rdb enc P w t cs) : cs.length = P.cellsOf t ∧ ∀ (i : Nat), i < n → Rdb enc P w e ((cs.drop (i * P.cellsOf e)).take (P.cellsOf e)) := by
  obtain ⟨_, _, h⟩ := h
  obtain ⟨xs, m, _, _, hl, hx, hf⟩ := DataW.trod_array ht h
  refine ⟨hl, fun i hi => ?_⟩
  have hlt : i < xs.length := by rw [hx]; exact hi
  exact ⟨m, xs[i], by rw [hf i hi, List.getElem?_eq_getElem hlt]⟩
theorem mapM_all {α β : Type} {f : α → Option β} : ∀ {l : List α} {r : List β}, l.mapM f = some r → ∀ (i : Nat) x, l[i]? = some x → ∃ y, r[i]? = some y ∧ f x = some y := fun h i x hi => by
  have h1 := mapM_some_get h i x hi
  have hl := mapM_some_length h
  have hlt : i < _ := (List.getElem?_eq_some_iff.1 hi).1
  have h2 := List.getElem?_eq_getElem (show i < _ by rw [hl]; exact hlt)
  exact ⟨_, h2, h1.trans h2⟩
theorem cells_of {a : Addr} {n : Nat} {l : List Value} (h : w.cells? 0 a n = some l) : l.length = n ∧ ∀ (j : Nat) v, l[j]? = some v → w.cell? (a.add j) = some v := by
  unfold World.cells? at h
  rw [if_pos (Nat.zero_le _)] at h
  have hl := mapM_some_length h
  rw [List.length_range] at hl
  refine ⟨hl, fun j v hj => ?_⟩
  have hlt : j < n := by rw [← hl]; exact (List.getElem?_eq_some_iff.1 hj).1
  obtain ⟨y, hy, h1⟩ := mapM_all h j j (by simp [hlt])
  rw [hj] at hy
  cases hy
  exact h1
theorem cell_lt {a : Addr} {v : Value} (h : w.cell? a = some v) : a.block < w.heap.size ∧ a.spot = none := by
  unfold World.cell? at h
  split at h
  · rename_i c _ _ hb
    split at h
    · cases h
    · rename_i hs
      exact ⟨(Array.getElem?_eq_some_iff.1 hb).1, by simpa using hs⟩
  · cases h
/-- a slice: its elements opened one for one -/
theorem rdb_slice {α : Type} {ec : α → List Value} {sz : Nat} {Q : α → Prop} (ht : P.underlying t = some (.slice e)) (hsz : P.cellsOf e = sz) (h0 : 0 < sz) (dec : ∀ c, c.length = sz → Rdb enc P w e c → ∃ x, c = ec x ∧ Q x) (h : Rdb enc P w t cs) :
    ∃ s : Sl α, cs = [s.v] ∧ SlAt w.heap.size w ec sz s ∧ ∀ x ∈ s.l, Q x := by
  obtain ⟨_, _, h⟩ := h
  rcases DataW.trod_slice ht h with ⟨rfl, _⟩ | ⟨a, len, cap, elems, rest, n, _, rfl, _, _, hl, hc, hel, he, _⟩
  · exact ⟨Sl.nil, rfl, .none_, fun x hx => by simp [Sl.nil] at hx⟩
  rw [hsz] at he
  have each : ∀ i, i < len → ∃ x, Q x ∧ (ec x).length = sz ∧ ∀ (j : Nat) v, (ec x)[j]? = some v → w.cell? ((a.add (i * sz)).add j) = some v := fun i hi => by
    have h1 := he i hi
    have h2 := List.getElem?_eq_getElem (show i < elems.length by omega)
    rw [h2] at h1
    obtain ⟨c, hc1, hc2⟩ := Option.bind_eq_some_iff.1 h1
    obtain ⟨hcl, hcell⟩ := cells_of hc1
    obtain ⟨x, rfl, hq⟩ := dec c hcl ⟨_, _, hc2⟩
    exact ⟨x, hq, hcl, hcell⟩
  have build : ∀ k, k ≤ len → ∃ l : List α, l.length = k ∧ (∀ x ∈ l, Q x) ∧ ∀ (i : Nat) x, l[i]? = some x → (ec x).length = sz ∧ ∀ (j : Nat) v, (ec x)[j]? = some v → w.cell? ((a.add (i * sz)).add j) = some v := by
    intro k
    induction k with
    | zero => exact fun _ => ⟨[], rfl, by simp, by simp⟩
    | succ k ih =>
      intro hk
      obtain ⟨l, h1, h2, h3⟩ := ih (by omega)
      obtain ⟨x, hq, hxl, hx⟩ := each k (by omega)
      refine ⟨l ++ [x], by simp [h1], fun y hy => ?_, fun i y hi => ?_⟩
      · rcases List.mem_append.1 hy with hy | hy
        · exact h2 y hy
        · simp at hy; subst hy; exact hq
      · by_cases hik : i < k
        · rw [List.getElem?_append_left (by omega)] at hi
          exact h3 i y hi
        · rw [List.getElem?_append_right (by omega)] at hi
          have : i = k := by
            have := (List.getElem?_eq_some_iff.1 hi).1
            simp at this
            omega
          subst this
          simp [h1] at hi
          subst hi
          exact ⟨hxl, hx⟩
  obtain ⟨l, h1, h2, h3⟩ := build len (Nat.le_refl _)
  refine ⟨⟨some a, cap, l⟩, by simp [Sl.v, h1], ⟨by show l.length ≤ cap; omega, hc, (fun hh => by cases hh), fun hne => ?_⟩, h2⟩
  have hne' : l ≠ [] := hne
  obtain ⟨x, r, rfl⟩ : ∃ x r, l = x :: r := by
    cases l with
    | nil => exact (hne' rfl).elim
    | cons x r => exact ⟨x, r, rfl⟩
  obtain ⟨hxl, hx⟩ := h3 0 x rfl
  have hc0 := hx 0 (ec x)[0] (List.getElem?_eq_getElem (by omega))
  simp only [Nat.zero_mul, Addr.add, if_true] at hc0
  obtain ⟨hlt, hsp⟩ := cell_lt hc0
  obtain ⟨b, o, sp⟩ := a
  have hsp' : sp = none := hsp
  subst hsp'
  refine ⟨b, o, rfl, hlt, fun i y hi j v hj => ?_⟩
  have := (h3 i y hi).2 j v hj
  rwa [add_plain, add_plain] at this
theorem drop_split (l : List Value) (o n : Nat) : l.drop o = (l.drop o).take n ++ l.drop (o + n) := by
  rw [← List.drop_drop, List.take_append_drop]
end
theorem rdb_u8s {H : Type} {enc : TypeId × Value → H} {w : World} {t : TypeId} {n : Nat} {cs : List Value} (ht : Tryz.prog.underlying t = some (.array n 5)) (hn : Tryz.prog.cellsOf t = n) (h : Rdb enc Tryz.prog w t cs) : ∃ l : List UInt8, l.length = n ∧ cs = l.map u8 := by
  obtain ⟨hl, he⟩ := rdb_array ht h
  rw [hn] at hl
  have hc : Tryz.prog.cellsOf 5 = 1 := by kernel_rfl
  rw [hc] at he
  have each : ∀ i, i < n → ∃ x : UInt8, cs[i]? = some (u8 x) := fun i hi => by
    obtain ⟨m, h1, hw⟩ := rdb_int Tryz.underlying5 (he i hi)
    obtain ⟨k, rfl, hk⟩ := lit_u8 hw
    refine ⟨UInt8.ofNat k, ?_⟩
    have h2 : ((cs.drop (i * 1)).take 1)[0]? = some (.int .u8 (k : Int)) := by rw [h1]; rfl
    rw [List.getElem?_take_of_lt (by omega), List.getElem?_drop] at h2
    simp only [Nat.mul_one, Nat.add_zero] at h2
    rw [h2]
    have : (UInt8.ofNat k).toNat = k := by simp; omega
    rw [show u8 (UInt8.ofNat k) = .int .u8 ((UInt8.ofNat k).toNat : Int) from rfl, this]
  refine ⟨(List.range n).map fun i => match cs[i]? with | some (Value.int _ m) => UInt8.ofNat m.toNat | _ => 0, by simp, ?_⟩
  apply List.ext_getElem?
  intro i
  by_cases hi : i < n
  · obtain ⟨x, hx⟩ := each i hi
    have : UInt8.ofNat (x.toNat : Int).toNat = x := by simp
    simp [hx, hi]
  · rw [List.getElem?_eq_none (by omega), List.getElem?_eq_none (by simp; omega)]
theorem rdb_id {H : Type} {enc : TypeId × Value → H} {w : World} {cs : List Value} (h : Rdb enc Tryz.prog w 44 cs) : ∃ x : Id, cs = x.c := by
  obtain ⟨l, hl, rfl⟩ := rdb_u8s (n := 32) (by kernel_rfl) (by kernel_rfl) h
  refine ⟨⟨l.toArray, by simp [hl]⟩, ?_⟩
  have := congrArg Array.toList (Id.cells ⟨l.toArray, by simp [hl]⟩)
  rw [List.toList_toArray, List.toList_toArray] at this
  exact this
theorem rdb_u32 {H : Type} {enc : TypeId × Value → H} {w : World} {cs : List Value} (h : Rdb enc Tryz.prog w 24 cs) : ∃ x : UInt32, cs = [u32 x] := by
  obtain ⟨n, rfl, hw⟩ := rdb_int Tryz.underlying24 h
  obtain ⟨x, rfl⟩ := lit_u32 hw
  exact ⟨x, rfl⟩
theorem rdb_i64 {H : Type} {enc : TypeId × Value → H} {w : World} {cs : List Value} (h : Rdb enc Tryz.prog w 3 cs) : ∃ x : Int, cs = [i64 x] ∧ -9223372036854775808 ≤ x ∧ x ≤ 9223372036854775807 := by
  obtain ⟨n, rfl, hw⟩ := rdb_int Tryz.underlying3 h
  exact ⟨n, rfl, lit_i64 hw⟩
theorem rdb_bytes {H : Type} {enc : TypeId × Value → H} {w : World} {cs : List Value} (h : Rdb enc Tryz.prog w 38 cs) : ∃ s : Bytes, cs = [s.v] ∧ SlAt w.heap.size w u8L 1 s := by
  obtain ⟨s, h1, h2, _⟩ := rdb_slice (ec := u8L) (sz := 1) (Q := fun _ => True) Tryz.underlying38 (by kernel_rfl) (by omega) (fun c _ hc => by
    obtain ⟨n, rfl, hw⟩ := rdb_int Tryz.underlying5 hc
    obtain ⟨k, rfl, hk⟩ := lit_u8 hw
    refine ⟨UInt8.ofNat k, ?_, trivial⟩
    have : (UInt8.ofNat k).toNat = k := by simp; omega
    rw [show u8L (UInt8.ofNat k) = [.int .u8 ((UInt8.ofNat k).toNat : Int)] from rfl, this]) h
  exact ⟨s, h1, h2⟩
theorem rdb_tier {H : Type} {enc : TypeId × Value → H} {w : World} {cs : List Value} (h : Rdb enc Tryz.prog w 51 cs) : ∃ x : Tier, cs = x.c ∧ SlAt w.heap.size w u8L 1 x.tx := by
  obtain ⟨hl, hf⟩ := rdb_struct (fs := Tryz.prog.fieldsOf 51) (by kernel_rfl) h
  obtain ⟨a, ha⟩ := rdb_u32 (cs := (cs.drop 0).take 1) (hf 0 _ rfl)
  obtain ⟨b, hb, hs⟩ := rdb_bytes (cs := (cs.drop 1).take 1) (hf 1 _ rfl)
  have h1 := drop_split cs 0 1
  have h2 := drop_split cs 1 1
  rw [ha, h2, hb, List.drop_zero] at h1
  have h3 : cs.drop 2 = [] := List.drop_eq_nil_of_le (by rw [hl]; exact Nat.le_of_eq (by kernel_rfl))
  rw [h3] at h1
  exact ⟨⟨a, b⟩, h1, hs⟩
theorem rdb_pay {H : Type} {enc : TypeId × Value → H} {w : World} {cs : List Value} (h : Rdb enc Tryz.prog w 47 cs) : ∃ x : Payload, cs = [x.v] ∧ PayAt w.heap.size w x := by
  obtain ⟨hl, hf⟩ := rdb_struct (fs := Tryz.prog.fieldsOf 47) (by kernel_rfl) h
  obtain ⟨s, hs, hat, hq⟩ := rdb_slice (cs := (cs.drop 0).take 1) (ec := Tier.c) (sz := 2) (Q := fun x => SlAt w.heap.size w u8L 1 x.tx) Tryz.underlying45 (by kernel_rfl) (by omega) (fun c _ hc => rdb_tier hc) (hf 0 _ rfl)
  have h1 := drop_split cs 0 1
  have h3 : cs.drop 1 = [] := List.drop_eq_nil_of_le (by rw [hl]; exact Nat.le_of_eq (by kernel_rfl))
  rw [hs, show (0 + 1) = 1 from rfl, h3, List.drop_zero] at h1
  exact ⟨s, h1, hat, hq⟩
theorem agg_arg {H : Type} {enc : TypeId × Value → H} {P : Program} {w : World} {r : Reach} {b0 : Nat} {t : TypeId} {v : Value} {d : DataW H} {ps : List MemPlace} (hs : (match P.underlying t with | some (.struct _) | some (.array _ _) => true | _ => false) = true) (hval : Value.okWide P w r b0 t v) (h : DataW.Trod enc P w 0 (fun _ => true) true t v d ps) :
    ∃ cs : List Value, v = .agg cs.toArray ∧ Rdb enc P w t cs := by
  have h1 := rdb_of h
  unfold Value.okWide at hval
  split at hval
  · obtain ⟨cs, rfl, _⟩ := hval
    exact ⟨cs.toList, rfl, h1⟩
  · obtain ⟨cs, rfl, _⟩ := hval
    exact ⟨cs.toList, rfl, h1⟩
  · rename_i h2 h3
    split at hs
    · rename_i fs hu; exact (h2 fs hu).elim
    · rename_i n e hu; exact (h3 n e hu).elim
    · cases hs
theorem slice_arg {H : Type} {enc : TypeId × Value → H} {P : Program} {w : World} {r : Reach} {b0 : Nat} {t e : TypeId} {v : Value} {d : DataW H} {ps : List MemPlace} (ht : P.underlying t = some (.slice e)) (hval : Value.okWide P w r b0 t v) (h : DataW.Trod enc P w 0 (fun _ => true) true t v d ps) : Rdb enc P w t [v] := by
  have h1 := rdb_of h
  obtain ⟨a, n, c, rfl⟩ := Go.WideShapes.okWide_slice ht hval
  exact h1
end Go.Proofs.YteabebmlclgakaaGreat
/- ElId: ids in rows. No condition. -/
namespace Go.Proofs.YteabebmlclgakaaGreat
set_option linter.unusedSimpArgs false
set_option linter.unusedVariables false
open Go.RowKit
set_option maxRecDepth 100000
set_option maxHeartbeats 2000000
theorem el_id : ElT Tryz.prog 52 44 32 32 := elt_of (z := Id.z.v) Tryz.underlying52 (by kernel_rfl) rfl (by omega)
theorem idL_one {l : List Id} : ∀ x ∈ l, ∀ u ∈ Id.c x, u.oneCell' = true := fun x _ u hu => by
  rw [← (show (Id.c x).toArray.toList = Id.c x from rfl), ← Id.cells] at hu
  simp at hu
  obtain ⟨y, _, rfl⟩ := hu
  rfl
end Go.Proofs.YteabebmlclgakaaGreat
/- BlkT: blocks as cells. -/
namespace Go.Proofs.YteabebmlclgakaaGreat
set_option linter.unusedSimpArgs false
set_option linter.unusedVariables false
open Go.RowKit
set_option maxRecDepth 100000
set_option maxHeartbeats 2000000
structure Blk where
  hash : Id
  parent : Id
  tx : Sl Id
abbrev Blk.c (x : Blk) : List Value := (u8 x.hash[0] :: u8 x.hash[1] :: u8 x.hash[2] :: u8 x.hash[3] :: u8 x.hash[4] :: u8 x.hash[5] :: u8 x.hash[6] :: u8 x.hash[7] :: u8 x.hash[8] :: u8 x.hash[9] :: u8 x.hash[10] :: u8 x.hash[11] :: u8 x.hash[12] :: u8 x.hash[13] :: u8 x.hash[14] :: u8 x.hash[15] :: u8 x.hash[16] :: u8 x.hash[17] :: u8 x.hash[18] :: u8 x.hash[19] :: u8 x.hash[20] :: u8 x.hash[21] :: u8 x.hash[22] :: u8 x.hash[23] :: u8 x.hash[24] :: u8 x.hash[25] :: u8 x.hash[26] :: u8 x.hash[27] :: u8 x.hash[28] :: u8 x.hash[29] :: u8 x.hash[30] :: u8 x.hash[31] :: u8 x.parent[0] :: u8 x.parent[1] :: u8 x.parent[2] :: u8 x.parent[3] :: u8 x.parent[4] :: u8 x.parent[5] :: u8 x.parent[6] :: u8 x.parent[7] :: u8 x.parent[8] :: u8 x.parent[9] :: u8 x.parent[10] :: u8 x.parent[11] :: u8 x.parent[12] :: u8 x.parent[13] :: u8 x.parent[14] :: u8 x.parent[15] :: u8 x.parent[16] :: u8 x.parent[17] :: u8 x.parent[18] :: u8 x.parent[19] :: u8 x.parent[20] :: u8 x.parent[21] :: u8 x.parent[22] :: u8 x.parent[23] :: u8 x.parent[24] :: u8 x.parent[25] :: u8 x.parent[26] :: u8 x.parent[27] :: u8 x.parent[28] :: u8 x.parent[29] :: u8 x.parent[30] :: u8 x.parent[31] :: x.tx.v :: [])
abbrev Blk.v (x : Blk) : Value := .agg (List.toArray (u8 x.hash[0] :: u8 x.hash[1] :: u8 x.hash[2] :: u8 x.hash[3] :: u8 x.hash[4] :: u8 x.hash[5] :: u8 x.hash[6] :: u8 x.hash[7] :: u8 x.hash[8] :: u8 x.hash[9] :: u8 x.hash[10] :: u8 x.hash[11] :: u8 x.hash[12] :: u8 x.hash[13] :: u8 x.hash[14] :: u8 x.hash[15] :: u8 x.hash[16] :: u8 x.hash[17] :: u8 x.hash[18] :: u8 x.hash[19] :: u8 x.hash[20] :: u8 x.hash[21] :: u8 x.hash[22] :: u8 x.hash[23] :: u8 x.hash[24] :: u8 x.hash[25] :: u8 x.hash[26] :: u8 x.hash[27] :: u8 x.hash[28] :: u8 x.hash[29] :: u8 x.hash[30] :: u8 x.hash[31] :: u8 x.parent[0] :: u8 x.parent[1] :: u8 x.parent[2] :: u8 x.parent[3] :: u8 x.parent[4] :: u8 x.parent[5] :: u8 x.parent[6] :: u8 x.parent[7] :: u8 x.parent[8] :: u8 x.parent[9] :: u8 x.parent[10] :: u8 x.parent[11] :: u8 x.parent[12] :: u8 x.parent[13] :: u8 x.parent[14] :: u8 x.parent[15] :: u8 x.parent[16] :: u8 x.parent[17] :: u8 x.parent[18] :: u8 x.parent[19] :: u8 x.parent[20] :: u8 x.parent[21] :: u8 x.parent[22] :: u8 x.parent[23] :: u8 x.parent[24] :: u8 x.parent[25] :: u8 x.parent[26] :: u8 x.parent[27] :: u8 x.parent[28] :: u8 x.parent[29] :: u8 x.parent[30] :: u8 x.parent[31] :: x.tx.v :: []))
end Go.Proofs.YteabebmlclgakaaGreat
/- OpenK: blocks, lists of ids that came in, opened. No condition. -/
namespace Go.Proofs.YteabebmlclgakaaGreat
set_option linter.unusedSimpArgs false
set_option linter.unusedVariables false
open Go.RowKit
set_option maxRecDepth 100000
set_option maxHeartbeats 2000000
theorem rdb_ids {H : Type} {enc : TypeId × Value → H} {w : World} {cs : List Value} (h : Rdb enc Tryz.prog w 52 cs) : ∃ s : Sl Id, cs = [s.v] ∧ SlAt w.heap.size w Id.c 32 s := by
  obtain ⟨s, h1, h2, _⟩ := rdb_slice (ec := Id.c) (sz := 32) (Q := fun _ => True) Tryz.underlying52 (by kernel_rfl) (by omega) (fun c _ hc => by
    obtain ⟨x, hx⟩ := rdb_id hc
    exact ⟨x, hx, trivial⟩) h
  exact ⟨s, h1, h2⟩
theorem rdb_blk {H : Type} {enc : TypeId × Value → H} {w : World} {cs : List Value} (h : Rdb enc Tryz.prog w 54 cs) : ∃ x : Blk, cs = x.c ∧ SlAt w.heap.size w Id.c 32 x.tx := by
  obtain ⟨hl, hf⟩ := rdb_struct (fs := Tryz.prog.fieldsOf 54) (by kernel_rfl) h
  obtain ⟨a, ha⟩ := rdb_id (cs := (cs.drop 0).take 32) (hf 0 _ rfl)
  obtain ⟨b, hb⟩ := rdb_id (cs := (cs.drop 32).take 32) (hf 1 _ rfl)
  obtain ⟨s, hs, hat⟩ := rdb_ids (cs := (cs.drop 64).take 1) (hf 2 _ rfl)
  have h3 : cs.drop 65 = [] := List.drop_eq_nil_of_le (by rw [hl]; exact Nat.le_of_eq (by kernel_rfl))
  have h1 := drop_split cs 0 32
  rw [drop_split cs (0 + 32) 32, drop_split cs (0 + 32 + 32) 1, ha, hb, hs, h3, List.drop_zero] at h1
  exact ⟨⟨a, b, s⟩, h1, hat⟩
end Go.Proofs.YteabebmlclgakaaGreat
/- Up: arguments of bounded bulk: each slice in them is bounded. No condition. -/
namespace Go.Proofs.YteabebmlclgakaaGreat
set_option linter.unusedSimpArgs false
set_option linter.unusedVariables false
open Go.RowKit
set_option maxRecDepth 100000
set_option maxHeartbeats 2000000
section
variable {H : Type}
theorem bulk_one (d : DataW H) : 1 ≤ Rows.uptoBulk d := by
  cases d with
  | lit x => cases x <;> simp [Rows.uptoBulk]
  | _ => simp [Rows.uptoBulk]
theorem bulk_len : ∀ (l : List (DataW H)), l.length ≤ Rows.uptoBulkAll l
  | [] => by simp
  | d :: l => by
    have h1 := bulk_one d
    have h2 := bulk_len l
    simp only [Rows.uptoBulkAll, List.length_cons]
    omega
theorem bulk_mem : ∀ {l : List (DataW H)} {d : DataW H}, d ∈ l → Rows.uptoBulk d ≤ Rows.uptoBulkAll l
  | e :: l, d, h => by
    rcases List.mem_cons.1 h with rfl | h
    · simp only [Rows.uptoBulkAll]; omega
    · have := bulk_mem h
      simp only [Rows.uptoBulkAll]; omega
/-- cells that can be read as a type, and are of bounded bulk -/
def RdbU (N : Nat) (enc : TypeId × Value → H) (P : Program) (w : World) (t : TypeId) (cs : List Value) : Prop := ∃ fuel x, DataW.trod enc P w 0 (fun _ => true) true fuel t cs = some x ∧ Rows.uptoBulk x.1 ≤ N
variable {N : Nat} {enc : TypeId × Value → H} {P : Program} {w : World} {t e : TypeId} {cs : List Value}
theorem RdbU.rdb (h : RdbU N enc P w t cs) : Rdb enc P w t cs := by
  obtain ⟨f, x, h, _⟩ := h
  exact ⟨f, x, h⟩
theorem rdbU_of {v : Value} {d : DataW H} {ps : List MemPlace} (h : DataW.Trod enc P w 0 (fun _ => true) true t v d ps) (hN : Rows.uptoBulk d ≤ N) : RdbU N enc P w t v.cells.toList := by
  obtain ⟨f, h⟩ := h
  exact ⟨f, _, h, hN⟩
theorem rdbU_struct {fs : Array Field} (ht : P.underlying t = some (.struct fs)) (h : RdbU N enc P w t cs) : cs.length = P.cellsOf t ∧ ∀ (i : Nat) f, fs[i]? = some f → RdbU N enc P w f.type ((cs.drop f.offset).take (P.cellsOf f.type)) := by
  obtain ⟨_, _, h, hN⟩ := h
  obtain ⟨xs, n, _, rfl, hl, hx, hf⟩ := DataW.trod_struct ht h
  refine ⟨hl, fun i f hi => ?_⟩
  have hlt : i < xs.length := by rw [hx]; exact (Array.getElem?_eq_some_iff.1 hi).1
  refine ⟨n, xs[i], by rw [hf i f hi, List.getElem?_eq_getElem hlt], Nat.le_trans (bulk_mem (List.mem_map_of_mem (f := fun x => x.1) (List.getElem_mem hlt))) ?_⟩
  simp only [Rows.uptoBulk] at hN
  omega
/-- a slice: its elements opened one for one -/
theorem rdbU_slice {α : Type} {ec : α → List Value} {sz : Nat} {Q : α → Prop} (ht : P.underlying t = some (.slice e)) (hsz : P.cellsOf e = sz) (h0 : 0 < sz) (dec : ∀ c, c.length = sz → RdbU N enc P w e c → ∃ x, c = ec x ∧ Q x) (h : RdbU N enc P w t cs) :
    ∃ s : Sl α, cs = [s.v] ∧ SlAt w.heap.size w ec sz s ∧ s.l.length ≤ N ∧ ∀ x ∈ s.l, Q x := by
  obtain ⟨_, _, h, hN⟩ := h
  rcases DataW.trod_slice ht h with ⟨rfl, _⟩ | ⟨a, len, cap, elems, rest, n, _, rfl, rfl, _, hl, hc, hel, he, _⟩
  · exact ⟨Sl.nil, rfl, .none_, Nat.zero_le _, fun x hx => by simp [Sl.nil] at hx⟩
  rw [hsz] at he
  have hN1 : Rows.uptoBulkAll (elems.map (·.1)) + Rows.uptoBulkAll (rest.map (·.1)) + 1 ≤ N := by simpa [Rows.uptoBulk] using hN
  have hN2 := bulk_len (elems.map (·.1))
  rw [List.length_map] at hN2
  have each : ∀ i, i < len → ∃ x, Q x ∧ (ec x).length = sz ∧ ∀ (j : Nat) v, (ec x)[j]? = some v → w.cell? ((a.add (i * sz)).add j) = some v := fun i hi => by
    have h1 := he i hi
    have h2 := List.getElem?_eq_getElem (show i < elems.length by omega)
    rw [h2] at h1
    obtain ⟨c, hc1, hc2⟩ := Option.bind_eq_some_iff.1 h1
    obtain ⟨hcl, hcell⟩ := cells_of hc1
    obtain ⟨x, rfl, hq⟩ := dec c hcl ⟨_, _, hc2, Nat.le_trans (bulk_mem (l := elems.map (·.1)) (List.mem_map_of_mem (List.getElem_mem _))) (by omega)⟩
    exact ⟨x, hq, hcl, hcell⟩
  have build : ∀ k, k ≤ len → ∃ l : List α, l.length = k ∧ (∀ x ∈ l, Q x) ∧ ∀ (i : Nat) x, l[i]? = some x → (ec x).length = sz ∧ ∀ (j : Nat) v, (ec x)[j]? = some v → w.cell? ((a.add (i * sz)).add j) = some v := by
    intro k
    induction k with
    | zero => exact fun _ => ⟨[], rfl, by simp, by simp⟩
    | succ k ih =>
      intro hk
      obtain ⟨l, h1, h2, h3⟩ := ih (by omega)
      obtain ⟨x, hq, hxl, hx⟩ := each k (by omega)
      refine ⟨l ++ [x], by simp [h1], fun y hy => ?_, fun i y hi => ?_⟩
      · rcases List.mem_append.1 hy with hy | hy
        · exact h2 y hy
        · simp at hy; subst hy; exact hq
      · by_cases hik : i < k
        · rw [List.getElem?_append_left (by omega)] at hi
          exact h3 i y hi
        · rw [List.getElem?_append_right (by omega)] at hi
          have : i = k := by
            have := (List.getElem?_eq_some_iff.1 hi).1
            simp at this
            omega
          subst this
          simp [h1] at hi
          subst hi
          exact ⟨hxl, hx⟩
  obtain ⟨l, h1, h2, h3⟩ := build len (Nat.le_refl _)
  refine ⟨⟨some a, cap, l⟩, by simp [Sl.v, h1], ⟨by show l.length ≤ cap; omega, hc, (fun hh => by cases hh), fun hne => ?_⟩, by show l.length ≤ N; omega, h2⟩
  have hne' : l ≠ [] := hne
  obtain ⟨x, r, rfl⟩ : ∃ x r, l = x :: r := by
    cases l with
    | nil => exact (hne' rfl).elim
    | cons x r => exact ⟨x, r, rfl⟩
  obtain ⟨hxl, hx⟩ := h3 0 x rfl
  have hc0 := hx 0 (ec x)[0] (List.getElem?_eq_getElem (by omega))
  simp only [Nat.zero_mul, Addr.add, if_true] at hc0
  obtain ⟨hlt, hsp⟩ := cell_lt hc0
  obtain ⟨b, o, sp⟩ := a
  have hsp' : sp = none := hsp
  subst hsp'
  refine ⟨b, o, rfl, hlt, fun i y hi j v hj => ?_⟩
  have := (h3 i y hi).2 j v hj
  rwa [add_plain, add_plain] at this
theorem rdbU_len {α : Type} {s : Sl α} (ht : P.underlying t = some (.slice e)) (h : RdbU N enc P w t [s.v]) : s.l.length ≤ N := by
  obtain ⟨_, _, h, hN⟩ := h
  rcases DataW.trod_slice ht h with ⟨h1, _⟩ | ⟨a, len, cap, elems, rest, n, _, h1, rfl, _, _, _, hl, _⟩
  · simp [Sl.v] at h1
    rw [h1.2.1]
    exact Nat.zero_le _
  · simp [Sl.v] at h1
    have h2 := bulk_len (elems.map (·.1))
    rw [List.length_map] at h2
    simp only [Rows.uptoBulk] at hN
    omega
end
end Go.Proofs.YteabebmlclgakaaGreat
/- Blob: blobs as cells, lists of blobs that came in. No condition. -/
namespace Go.Proofs.YteabebmlclgakaaGreat
set_option linter.unusedSimpArgs false
set_option linter.unusedVariables false
open Go.RowKit
set_option maxRecDepth 100000
set_option maxHeartbeats 2000000
def Hint.z : Hint := #v[0, 0, 0, 0, 0, 0, 0, 0, 0, 0, 0, 0, 0, 0, 0, 0]
structure Blob where
  key : Key
  hint : Hint
  data : Bytes
abbrev Blob.c (x : Blob) : List Value := (u32 x.key.ses :: u32 x.key.seq :: u8 x.hint[0] :: u8 x.hint[1] :: u8 x.hint[2] :: u8 x.hint[3] :: u8 x.hint[4] :: u8 x.hint[5] :: u8 x.hint[6] :: u8 x.hint[7] :: u8 x.hint[8] :: u8 x.hint[9] :: u8 x.hint[10] :: u8 x.hint[11] :: u8 x.hint[12] :: u8 x.hint[13] :: u8 x.hint[14] :: u8 x.hint[15] :: x.data.v :: [])
abbrev Blob.v (x : Blob) : Value := .agg (List.toArray (u32 x.key.ses :: u32 x.key.seq :: u8 x.hint[0] :: u8 x.hint[1] :: u8 x.hint[2] :: u8 x.hint[3] :: u8 x.hint[4] :: u8 x.hint[5] :: u8 x.hint[6] :: u8 x.hint[7] :: u8 x.hint[8] :: u8 x.hint[9] :: u8 x.hint[10] :: u8 x.hint[11] :: u8 x.hint[12] :: u8 x.hint[13] :: u8 x.hint[14] :: u8 x.hint[15] :: x.data.v :: []))
def Blob.z : Blob := ⟨⟨0, 0⟩, Hint.z, Sl.nil⟩
theorem el_blob : ElT Tryz.prog 28 40 19 48 := elt_of (z := Blob.z.v) Tryz.underlying28 (by kernel_rfl) rfl (by omega)
theorem blob_one {l : List Blob} : ∀ x ∈ l, ∀ u ∈ Blob.c x, u.oneCell' = true := fun x _ u hu => by
  simp only [Blob.c, List.mem_cons, List.not_mem_nil, or_false] at hu
  rcases hu with rfl | rfl | rfl | rfl | rfl | rfl | rfl | rfl | rfl | rfl | rfl | rfl | rfl | rfl | rfl | rfl | rfl | rfl | rfl <;> rfl
/-- what a shelf has -/
structure BlP where
  key : Key
  hint : Hint
  bytes : List UInt8
deriving DecidableEq
def Blob.p (x : Blob) : BlP := ⟨x.key, x.hint, x.data.l⟩
/-- blobs that came in -/
structure BlobsAt (B : Nat) (w : World) (l : Sl Blob) : Prop where
  row : SlAt B w Blob.c 19 l
  data : ∀ x ∈ l.l, SlAt B w u8L 1 x.data
theorem BlobsAt.keep {S : Nat → Prop} {B : Nat} {w w' : World} {l : Sl Blob} (h : BlobsAt B w l) (hc : Chg S w w') (hB : ∀ b, S b → B ≤ b) : BlobsAt B w' l := ⟨h.row.keep hc hB, fun x hx => (h.data x hx).keep hc hB⟩
theorem BlobsAt.more {B B' : Nat} {w : World} {l : Sl Blob} (h : BlobsAt B w l) (hB : B ≤ B') : BlobsAt B' w l := ⟨h.row.more hB, fun x hx => (h.data x hx).more hB⟩
end Go.Proofs.YteabebmlclgakaaGreat
