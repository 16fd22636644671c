/- MSessionDoes8: Bits, Arr, Sort0. -/
import Derived.Test.YtdncnepedkkamaaMSessionDoessSlice
import Derived.Laws.MakeOwn
import Derived.Laws.CopyRow
import Derived.Sort.LotA
import Derived.Sort.LotB
import Derived.Sort.LotD3
import Derived.Lib.BitFns
/- Bits: words of 32 bits, pieces of slices, copies into cells, rows that are made. No condition. -/
namespace Go.Proofs.Ytdncnepedkkamaa
set_option linter.unusedSimpArgs false
set_option linter.unusedVariables false
open Go.RowKit
abbrev u4 (x : UInt32) : Value := .int .u32 x.toNat
abbrev u4L (x : UInt32) : List Value := [u4 x]
abbrev u8' (x : UInt64) : Value := .int .u64 x.toNat
/-- shifts -/
def sr (x : UInt32) (n : Nat) : UInt32 := UInt32.ofNat (x.toNat / 2 ^ n)
def sl (x : UInt32) (n : Nat) : UInt32 := UInt32.ofNat (x.toNat * 2 ^ n)
theorem sr_nat (x : UInt32) (n : Nat) : (sr x n).toNat = x.toNat / 2 ^ n := by
  unfold sr
  have h1 : x.toNat / 2 ^ n ≤ x.toNat := Nat.div_le_self _ _
  have h2 := x.toNat_lt
  simp only [UInt32.toNat_ofNat']
  exact Nat.mod_eq_of_lt (by omega)
theorem sl_nat (x : UInt32) (n : Nat) : (sl x n).toNat = x.toNat * 2 ^ n % 4294967296 := by
  unfold sl
  simp [UInt32.toNat_ofNat']
theorem wrap_u32 (n : Nat) : IntKind.u32.wrap (n : Int) = ((UInt32.ofNat n).toNat : Int) := by
  simp [IntKind.wrap, IntKind.bits, IntKind.signed]
theorem ofInt_u32 (x : UInt32) : BitVec.ofInt 32 (x.toNat : Int) = x.toBitVec := by
  apply BitVec.eq_of_toNat_eq
  simp
section
variable {P : Program} {w : World} {ρ : Operand → Value} {o : Oper} {g : Value → World → Prop} {t t2 : TypeId} {a b : Operand} {x y : UInt32}
theorem run_and : (binOp .and t (u4 x) (u4 y)).run P w = .ok (u4 (x &&& y)) w := by
  have e : (IntKind.u32.wrap ((BitVec.ofInt 32 (x.toNat : Int) &&& BitVec.ofInt 32 (y.toNat : Int)).toNat : Int)) = ((x &&& y).toNat : Int) := by
    rw [ofInt_u32, ofInt_u32, wrap_u32, ← UInt32.toBitVec_and, UInt32.toNat_toBitVec, UInt32.ofNat_toNat]
  show ((pure (Value.int .u32 _) : Sem Value).run P w) = _
  rw [Sem.run_pure, u4, ← e]
  rfl
theorem run_or : (binOp .or t (u4 x) (u4 y)).run P w = .ok (u4 (x ||| y)) w := by
  have e : (IntKind.u32.wrap ((BitVec.ofInt 32 (x.toNat : Int) ||| BitVec.ofInt 32 (y.toNat : Int)).toNat : Int)) = ((x ||| y).toNat : Int) := by
    rw [ofInt_u32, ofInt_u32, wrap_u32, ← UInt32.toBitVec_or, UInt32.toNat_toBitVec, UInt32.ofNat_toNat]
  show ((pure (Value.int .u32 _) : Sem Value).run P w) = _
  rw [Sem.run_pure, u4, ← e]
  rfl
theorem run_xor : (binOp .xor t (u4 x) (u4 y)).run P w = .ok (u4 (x ^^^ y)) w := by
  have e : (IntKind.u32.wrap ((BitVec.ofInt 32 (x.toNat : Int) ^^^ BitVec.ofInt 32 (y.toNat : Int)).toNat : Int)) = ((x ^^^ y).toNat : Int) := by
    rw [ofInt_u32, ofInt_u32, wrap_u32, ← UInt32.toBitVec_xor, UInt32.toNat_toBitVec, UInt32.ofNat_toNat]
  show ((pure (Value.int .u32 _) : Sem Value).run P w) = _
  rw [Sem.run_pure, u4, ← e]
  rfl
theorem min32 (n : Nat) : (min n 32 : Nat) = if n ≤ 32 then n else 32 := by rw [Nat.min_def]
theorem fdiv_nat (m n : Nat) : Int.fdiv (m : Int) (2 ^ n : Int) = ((m / 2 ^ n : Nat) : Int) := by
  have h : (2 ^ n : Int) = ((2 ^ n : Nat) : Int) := by simp
  rw [h, Int.fdiv_eq_ediv_of_nonneg _ (Int.natCast_nonneg _), Int.natCast_ediv]
theorem run_shr {k : IntKind} {n : Nat} (hn : n ≤ 32) : (binOp .shr t (u4 x) (.int k n)).run P w = .ok (u4 (sr x n)) w := by
  have h1 : ¬ ((n : Int) < 0) := by omega
  have h2 : min (n : Int).toNat 32 = n := by rw [Int.toNat_natCast]; omega
  simp only [binOp, Op.shift, IntKind.bits, h1, if_false, h2, fdiv_nat, Sem.run_pure, u4, sr_nat]
theorem run_shl {k : IntKind} {n : Nat} (hn : n ≤ 32) : (binOp .shl t (u4 x) (.int k n)).run P w = .ok (u4 (sl x n)) w := by
  have h1 : ¬ ((n : Int) < 0) := by omega
  have h2 : min (n : Int).toNat 32 = n := by rw [Int.toNat_natCast]; omega
  have h3 : (x.toNat : Int) * 2 ^ n = ((x.toNat * 2 ^ n : Nat) : Int) := by simp
  simp only [binOp, Op.shift, IntKind.bits, h1, if_false, h2, Sem.run_pure, u4, h3, wrap_u32, sl]
theorem guard_int {k k' : IntKind} {m n : Int} (op : BinOp) (t : TypeId) (a b : Operand) : eqGuard op t a b (.int k m) (.int k' n) = pure () := eqGuard_at_int ..
theorem gen_and (hop : o.op = .binOp .and t a b t2) (x y : UInt32) (hx : ρ a = u4 x) (hy : ρ b = u4 y) (hk : g (u4 (x &&& y)) w) : Gen P ρ o w g := gen_bin hop (by rw [hx, hy]; exact guard_int ..) (by rw [hx, hy]; exact run_and) hk
theorem gen_or (hop : o.op = .binOp .or t a b t2) (x y : UInt32) (hx : ρ a = u4 x) (hy : ρ b = u4 y) (hk : g (u4 (x ||| y)) w) : Gen P ρ o w g := gen_bin hop (by rw [hx, hy]; exact guard_int ..) (by rw [hx, hy]; exact run_or) hk
theorem gen_xor (hop : o.op = .binOp .xor t a b t2) (x y : UInt32) (hx : ρ a = u4 x) (hy : ρ b = u4 y) (hk : g (u4 (x ^^^ y)) w) : Gen P ρ o w g := gen_bin hop (by rw [hx, hy]; exact guard_int ..) (by rw [hx, hy]; exact run_xor) hk
theorem gen_shr (hop : o.op = .binOp .shr t a b t2) {k : IntKind} (x : UInt32) (n : Nat) (hx : ρ a = u4 x) {m : Int} (hy : ρ b = .int k m) (hm : m = (n : Int)) (hn : n ≤ 32) (hk : g (u4 (sr x n)) w) : Gen P ρ o w g := by
  subst hm
  exact gen_bin hop (by rw [hx, hy]; exact guard_int ..) (by rw [hx, hy]; exact run_shr hn) hk
theorem gen_shl (hop : o.op = .binOp .shl t a b t2) {k : IntKind} (x : UInt32) (n : Nat) (hx : ρ a = u4 x) {m : Int} (hy : ρ b = .int k m) (hm : m = (n : Int)) (hn : n ≤ 32) (hk : g (u4 (sl x n)) w) : Gen P ρ o w g := by
  subst hm
  exact gen_bin hop (by rw [hx, hy]; exact guard_int ..) (by rw [hx, hy]; exact run_shl hn) hk
end
section
variable {P : Program} {w : World} {ρ : Operand → Value} {o : Oper} {g : Value → Prop} {t t2 : TypeId} {a b : Operand}
theorem rd_bin {op : BinOp} {v : Value} (hop : o.op = .binOp op t a b t2) (hg : eqGuard op t a b (ρ a) (ρ b) = pure ()) (hr : ∀ w', (binOp op t (ρ a) (ρ b)).run P w' = .ok v w') (h : g v) : Rd P ρ o w g := ⟨v, fun w' _ => by simp [execOp, hop, hg, hr w'], h⟩
theorem rd_and (hop : o.op = .binOp .and t a b t2) (x y : UInt32) (hx : ρ a = u4 x) (hy : ρ b = u4 y) (hk : g (u4 (x &&& y))) : Rd P ρ o w g := rd_bin hop (by rw [hx, hy]; exact guard_int ..) (fun _ => by rw [hx, hy]; exact run_and) hk
theorem rd_or (hop : o.op = .binOp .or t a b t2) (x y : UInt32) (hx : ρ a = u4 x) (hy : ρ b = u4 y) (hk : g (u4 (x ||| y))) : Rd P ρ o w g := rd_bin hop (by rw [hx, hy]; exact guard_int ..) (fun _ => by rw [hx, hy]; exact run_or) hk
theorem rd_xor (hop : o.op = .binOp .xor t a b t2) (x y : UInt32) (hx : ρ a = u4 x) (hy : ρ b = u4 y) (hk : g (u4 (x ^^^ y))) : Rd P ρ o w g := rd_bin hop (by rw [hx, hy]; exact guard_int ..) (fun _ => by rw [hx, hy]; exact run_xor) hk
theorem rd_shr (hop : o.op = .binOp .shr t a b t2) {k : IntKind} (x : UInt32) (n : Nat) (hx : ρ a = u4 x) {m : Int} (hy : ρ b = .int k m) (hm : m = (n : Int)) (hn : n ≤ 32) (hk : g (u4 (sr x n))) : Rd P ρ o w g := by
  subst hm
  exact rd_bin hop (by rw [hx, hy]; exact guard_int ..) (fun _ => by rw [hx, hy]; exact run_shr hn) hk
theorem rd_shl (hop : o.op = .binOp .shl t a b t2) {k : IntKind} (x : UInt32) (n : Nat) (hx : ρ a = u4 x) {m : Int} (hy : ρ b = .int k m) (hm : m = (n : Int)) (hn : n ≤ 32) (hk : g (u4 (sl x n))) : Rd P ρ o w g := by
  subst hm
  exact rd_bin hop (by rw [hx, hy]; exact guard_int ..) (fun _ => by rw [hx, hy]; exact run_shl hn) hk
end
theorem rd_conv {P : Program} {T : Tb} (hT : TabOk P T) {w : World} {ρ : Operand → Value} {o : Oper} {g : Value → Prop} {src dst : TypeId} {x : Operand} (hop : o.op = .convert src dst x) {k k1 k2 : IntKind} (hs : kindT T src = .int k1) (hd : kindT T dst = .int k) {n : Int} (hx : ρ x = .int k2 n) (hk : Ar k n fun r => g (.int k r)) : Rd P ρ o w g := by
  obtain ⟨r, hr, h⟩ := hk
  refine ⟨.int k r, fun w' _ => ?_, h⟩
  have h1 := hT.kind.1 _ hs
  have h2 := hT.kind.1 _ hd
  simp [execOp, hop, hx, convert, run_underlying h1, run_underlying h2, Conv.intToInt, hr]
/-- sums, parts, bytes of words -/
theorem ar_u4 {f : Int → Prop} (n : Nat) {s : Int} (hs : s = (n : Int)) (h : f ((UInt32.ofNat n).toNat : Int)) : Ar .u32 s f := by
  subst hs
  exact ⟨_, wrap_u32 n, h⟩
theorem ar_u4add {f : Int → Prop} (x y : UInt32) (h : f ((x + y).toNat : Int)) : Ar .u32 ((x.toNat : Int) + (y.toNat : Int)) f := ar_u32add x y h
theorem ar_u4sr {f : Int → Prop} (x : UInt32) (n : Nat) {d : Int} (hd : d = ((2 ^ n : Nat) : Int)) (h : f ((sr x n).toNat : Int)) : Ar .u32 (Int.tdiv (x.toNat : Int) d) f := by
  refine ⟨_, ?_, h⟩
  subst hd
  rw [show Int.tdiv (x.toNat : Int) ((2 ^ n : Nat) : Int) = ((x.toNat / 2 ^ n : Nat) : Int) from by rw [Int.natCast_ediv]; exact Int.tdiv_eq_ediv_of_nonneg (Int.natCast_nonneg _), wrap_u32]
  rfl
theorem wrap_u8 (n : Nat) : IntKind.u8.wrap (n : Int) = ((UInt8.ofNat n).toNat : Int) := by
  simp [IntKind.wrap, IntKind.bits, IntKind.signed]
/-- a word's byte -/
def byt (x : UInt32) (n : Nat) : UInt8 := UInt8.ofNat (x.toNat / 2 ^ n)
theorem ar_byt {f : Int → Prop} (x : UInt32) (n : Nat) (h : f ((byt x n).toNat : Int)) : Ar .u8 ((sr x n).toNat : Int) f := by
  refine ⟨_, ?_, h⟩
  rw [wrap_u8, sr_nat]
  rfl
theorem ar_byt0 {f : Int → Prop} (x : UInt32) (h : f ((byt x 0).toNat : Int)) : Ar .u8 (x.toNat : Int) f := by
  refine ⟨_, ?_, h⟩
  rw [wrap_u8]
  simp [byt]
theorem ar_bytm {f : Int → Prop} (x : UInt32) (n : Nat) (h : f ((byt x n).toNat : Int)) : Ar .u8 (Int.tmod ((sr x n).toNat : Int) 256) f := by
  refine ⟨_, ?_, h⟩
  rw [show Int.tmod ((sr x n).toNat : Int) 256 = (((sr x n).toNat % 256 : Nat) : Int) from by rw [Int.tmod_eq_emod_of_nonneg (Int.natCast_nonneg _)]; rfl, wrap_u8, sr_nat, byt]
  simp
theorem ar_bytm0 {f : Int → Prop} (x : UInt32) (h : f ((byt x 0).toNat : Int)) : Ar .u8 (Int.tmod (x.toNat : Int) 256) f := by
  refine ⟨_, ?_, h⟩
  rw [show Int.tmod (x.toNat : Int) 256 = ((x.toNat % 256 : Nat) : Int) from by rw [Int.tmod_eq_emod_of_nonneg (Int.natCast_nonneg _)]; rfl, wrap_u8, byt]
  simp
/-! ## pieces of slices -/
section
variable {α : Type} {w w0 : World} {enc : α → List Value} {sz B : Nat} {s : Sl α}
def Sl.cut (s : Sl α) (sz lo hi : Nat) : Sl α := ⟨if s.c = lo then s.A else s.A.map (·.add (lo * sz)), s.c - lo, (s.l.take hi).drop lo⟩
theorem Sl.cut_len {lo hi : Nat} (h2 : hi ≤ s.l.length) : (s.cut sz lo hi).l.length = hi - lo := by simp [Sl.cut]; omega
theorem SlAt.cut (h : SlAt B w enc sz s) {lo hi : Nat} (h1 : lo ≤ hi) (h2 : hi ≤ s.l.length) : SlAt B w enc sz (s.cut sz lo hi) := by
  have hle := h.le
  have hmax := h.max
  refine ⟨?_, ?_, fun hA => ?_, fun hn => ?_⟩
  · rw [Sl.cut_len h2]; show _ ≤ s.c - lo; omega
  · show s.c - lo ≤ _; omega
  · show s.c - lo = 0
    by_cases hc : s.c = lo
    · omega
    · simp only [Sl.cut, hc, if_false, Option.map_eq_none_iff] at hA
      have := h.nil hA
      omega
  · have hl : 0 < (s.cut sz lo hi).l.length := List.length_pos_iff.2 hn
    rw [Sl.cut_len h2] at hl
    obtain ⟨b, o, hA, hb, hr⟩ := h.row (fun e => by rw [e] at h2; simp at h2; omega)
    refine ⟨b, o + lo * sz, ?_, hb, fun i x hi j v hj => ?_⟩
    · simp only [Sl.cut]
      rw [if_neg (by omega), hA, Option.map_some, add_plain]
    · simp only [Sl.cut, List.getElem?_drop] at hi
      have h3 : s.l[lo + i]? = some x := by
        rw [List.getElem?_take] at hi
        split at hi
        · exact hi
        · cases hi
      have := hr (lo + i) x h3 j v hj
      rw [Nat.add_mul] at this
      rwa [show o + lo * sz + i * sz + j = o + (lo * sz + i * sz) + j by omega]
end
section
variable {α : Type} {P : Program} {S : Nat → Prop} {w w0 : World} {rs : List Res} {ρ : Operand → Value} {o : Oper} {g : Value → World → Prop} {t t2 e : TypeId} {sz bytes B : Nat} {enc : α → List Value} {x y : Operand}
theorem run_cut {lo hi : Option Operand} (hop : o.op = .slice t x lo hi none) (ht : P.underlying t = some (.slice e)) (he : ∃ i, P.info? e = some i ∧ i.size = sz) (s : Sl α) (hx : ρ x = s.v) (hc : s.l.length ≤ s.c) {l h : Nat}
    (hl : match lo with | some q => ∃ k, ρ q = .int k l | none => l = 0) (hh : match hi with | some q => ∃ k, ρ q = .int k h | none => h = s.l.length) (h1 : l ≤ h) (h2 : h ≤ s.l.length) :
    (execOp ρ o).run P w = .ok (.value (s.cut sz l h).v) w := by
  obtain ⟨i, hi', hsz⟩ := he
  have e1 : (s.cut sz l h).v = .slice (if s.c = l then s.A else s.A.map (·.add (l * sz))) (h - l) (s.c - l) := by
    show Value.slice _ _ _ = _
    rw [Sl.cut_len h2]
    rfl
  have b1 : (0 : Int) ≤ (h : Int) ∧ (h : Int) ≤ (s.c : Int) := by omega
  have b2 : (0 : Int) ≤ (l : Int) ∧ (l : Int) ≤ (h : Int) := by omega
  rw [e1]
  cases lo <;> cases hi <;> simp only at hl hh
  · subst hl hh
    simp [execOp, hop, hx, Instr.sliceAt, Instr.slice, run_underlying ht, Instr.sliceBounds, sizeOf, typeInfo, hi', hsz]
  · subst hl
    obtain ⟨k, hk⟩ := hh
    simp [execOp, hop, hx, hk, Instr.sliceAt, Instr.slice, run_underlying ht, Instr.sliceBounds, Instr.sliceBound, asIntOf, b1, sizeOf, typeInfo, hi', hsz]
    all_goals (intros; omega)
  · subst hh
    obtain ⟨k, hk⟩ := hl
    simp [execOp, hop, hx, hk, Instr.sliceAt, Instr.slice, run_underlying ht, Instr.sliceBounds, Instr.sliceBound, asIntOf, b2, sizeOf, typeInfo, hi', hsz]
    all_goals (intros; omega)
  · obtain ⟨k, hk⟩ := hl
    obtain ⟨k', hk'⟩ := hh
    simp [execOp, hop, hx, hk, hk', Instr.sliceAt, Instr.slice, run_underlying ht, Instr.sliceBounds, Instr.sliceBound, asIntOf, b1, b2, sizeOf, typeInfo, hi', hsz]
    rw [if_pos (by omega), if_pos (by omega)]
theorem gen_cutl {lo : Operand} (hop : o.op = .slice t x (some lo) none none) (hE : ElT P t e sz bytes) (s : Sl α) (hx : ρ x = s.v) (hc : SlAt B w enc sz s) {k : IntKind} {m : Int} (hl : ρ lo = .int k m) {l : Nat} (hm : m = l) (h2 : l ≤ s.l.length) (hk : g (s.cut sz l s.l.length).v w) : Gen P ρ o w g := by
  subst hm
  obtain ⟨ht, i, z, hi, _, hs, _⟩ := hE
  exact gen_v (run_cut hop ht ⟨i, hi, hs⟩ s hx hc.le (l := l) (h := s.l.length) ⟨k, hl⟩ rfl h2 (Nat.le_refl _)) hk
theorem gen_cuth {hi : Operand} (hop : o.op = .slice t x none (some hi) none) (hE : ElT P t e sz bytes) (s : Sl α) (hx : ρ x = s.v) (hc : SlAt B w enc sz s) {k : IntKind} {m : Int} (hh : ρ hi = .int k m) {h : Nat} (hm : m = h) (h2 : h ≤ s.l.length) (hk : g (s.cut sz 0 h).v w) : Gen P ρ o w g := by
  subst hm
  obtain ⟨ht, i, z, hi', _, hs, _⟩ := hE
  exact gen_v (run_cut hop ht ⟨i, hi', hs⟩ s hx hc.le (l := 0) (h := h) rfl ⟨k, hh⟩ (Nat.zero_le _) h2) hk
theorem gen_cutb {lo hi : Operand} (hop : o.op = .slice t x (some lo) (some hi) none) (hE : ElT P t e sz bytes) (s : Sl α) (hx : ρ x = s.v) (hc : SlAt B w enc sz s) {k k' : IntKind} {m m' : Int} (hl : ρ lo = .int k m) (hh : ρ hi = .int k' m') {l h : Nat} (hm : m = l) (hm' : m' = h) (h1 : l ≤ h) (h2 : h ≤ s.l.length) (hk : g (s.cut sz l h).v w) : Gen P ρ o w g := by
  subst hm hm'
  obtain ⟨ht, i, z, hi', _, hs, _⟩ := hE
  exact gen_v (run_cut hop ht ⟨i, hi', hs⟩ s hx hc.le (l := l) (h := h) ⟨k, hl⟩ ⟨k', hh⟩ h1 h2) hk
/-- an array as a slice -/
def arrS (b ofs : Nat) (l : List α) : Sl α := ⟨some ⟨b, ofs, none⟩, l.length, l⟩
theorem gen_arr (hop : o.op = .slice t x none none none) {n : Nat} (ht : P.underlying t = some (.array n e)) {b ofs : Nat} (hx : ρ x = .pointer (some ⟨b, ofs, none⟩)) (he : (P.info? e).isSome = true) (l : List α) (hl : l.length = n) (hk : g (arrS b ofs l).v w) : Gen P ρ o w g := by
  obtain ⟨i, hi⟩ := Option.isSome_iff_exists.1 he
  subst hl
  refine gen_v (v := (arrS b ofs l).v) (w' := w) ?_ hk
  by_cases h0 : l.length = 0 <;> simp [execOp, hop, hx, Instr.sliceAt, Instr.sureAddr, run_underlying ht, Instr.sliceBounds, sizeOf, typeInfo, hi, arrS, add_plain, h0]
theorem cel_slat {j b ofs : Nat} {ct : TypeId} {cs : Array Value} {l : List α} (h : Hp S w0 w rs) (hj : rs[j]? = some (cel b ct cs)) (hsz : ∀ x ∈ l, (enc x).length = sz) (hc : (cs.toList.drop ofs).take (l.length * sz) = l.flatMap enc) (hm : l.length ≤ maxLen) : SlAt w.heap.size w enc sz (arrS b ofs l) := by
  have hk := cel_ok.1 (h.get hj)
  refine ⟨Nat.le_refl _, hm, fun hh => by simp [arrS] at hh, fun _ => ⟨b, ofs, rfl, (heap_lt hk), fun i x hi q v hq => ?_⟩⟩
  have h1 := flat_at hsz i x hi q v hq
  rw [← hc] at h1
  have hlt : i * sz + q < l.length * sz := by
    have h2 := (List.getElem?_eq_some_iff.1 hi).1
    have h3 := (List.getElem?_eq_some_iff.1 hq).1
    rw [hsz x (List.mem_of_getElem? hi)] at h3
    have h4 : (i + 1) * sz ≤ l.length * sz := Nat.mul_le_mul_right _ h2
    rw [Nat.succ_mul] at h4
    omega
  rw [List.getElem?_take_of_lt hlt, List.getElem?_drop, ← Nat.add_assoc] at h1
  simp only [World.cell?, hk]
  simpa using h1
theorem gen_make {len cap : Operand} (hop : o.op = .makeSlice t len cap) (h : Hp S w0 w rs) (hE : ElT P t e sz bytes) (enc : α → List Value) {kl kc : IntKind} {m n : Int} {c : Nat} (hl : ρ len = .int kl m) (hc : ρ cap = .int kc n) (hm : m = 0) (hn : n = c) (hb : bytes * c ≤ 281474976710656) (h63 : c ≤ maxLen)
    (hk : ∀ b w', Hp S w0 w' (rowR e sz enc ⟨some ⟨b, 0, none⟩, c, []⟩ :: rs) → g (.slice (some ⟨b, 0, none⟩) 0 c) w') : Gen P ρ o w g := by
  subst hm hn
  obtain ⟨ht, i, z, hi, hz, hs, hby, hzs, hsz⟩ := hE
  subst hby
  obtain ⟨w', hr, ho, hg⟩ := run_make_own (P := P) w 0 t e i z sz ht hi hz hs kl kc c hb h63 (Nat.zero_le _)
  refine gen_v (v := .slice (some ⟨w.heap.size, 0, none⟩) 0 c) (w' := w') (by simp [execOp, hop, hl, hc, hr]) (hk _ _ (h.new ((Chg.refl _ _).grown hg (run_drawn hr) fun _ _ hh => by cases hh) (rowR_ok.2 ⟨ho, by simp⟩) fun b hb => ?_))
  rw [rowR_dom] at hb
  have hb : w.heap.size = b := Option.some.inj hb
  omega
theorem gen_copy (hop : o.op = .call { callee := .builtin .copy, args := #[x, y], argTypes := #[t, t2] }) (h : Hp S w0 w rs) (j : Nat) {b ofs dLen dCap : Nat} {ct : TypeId} {cs : Array Value} (hj : rs[j]? = some (cel b ct cs)) (hE : ElT P t e 1 bytes) (hx : ρ x = .slice (some ⟨b, ofs, none⟩) dLen dCap) (s : Sl α) (hy : ρ y = s.v) (hs : SlAt B w enc 1 s)
    (hne : s.l ≠ []) (hl : ∀ x ∈ s.l, (enc x).length = 1) (h1 : ∀ x ∈ s.l, ∀ u ∈ enc x, u.oneCell' = true) {n : Nat} (hn : n = min s.l.length dLen) (hfit : ofs + n ≤ cs.size)
    (hk : ∀ w', Hp S w0 w' (rs.set j (cel b ct (cs.toList.take ofs ++ (s.l.take n).flatMap enc ++ cs.toList.drop (ofs + n)).toArray)) → g (.int .i64 n) w') : Gen P ρ o w g := by
  obtain ⟨ht, i, z, hi, hz, hsz, hby, hzs, _⟩ := hE
  obtain ⟨sb, so, hA, hsb, hrow⟩ := hs.row hne
  have hlt : ∀ x ∈ s.l.take n, (enc x).length = 1 := fun x hx => hl x (List.mem_of_mem_take hx)
  have hlen : ((s.l.take n).flatMap enc).length = n := by rw [flat_len hlt, List.length_take]; omega
  have hcel := cel_ok.1 (h.get hj)
  have hr := run_copy_row (P := P) w t t2 o.type e b ofs dLen dCap ⟨sb, so, none⟩ s.l.length s.c cs ct ((s.l.take n).flatMap enc) ht (by simp [hi, hsz]) hcel (by rw [hlen]; exact hn)
    (fun q v hv => by
      have hq : q < n := by have := (List.getElem?_eq_some_iff.1 hv).1; omega
      have hq2 : q < s.l.length := by omega
      have h2 := flat_at hlt q (s.l[q]) (by rw [List.getElem?_take_of_lt hq, List.getElem?_eq_getElem hq2]) 0
      have h3 := hl _ (List.getElem_mem hq2)
      obtain ⟨v', hv'⟩ : ∃ v', (enc (s.l[q]))[0]? = some v' := ⟨(enc (s.l[q]))[0]'(by omega), List.getElem?_eq_getElem (by omega)⟩
      have h4 := h2 v' hv'
      rw [Nat.mul_one, Nat.add_zero, hv] at h4
      injection h4 with h4
      subst h4
      rw [add_plain]
      have := hrow q _ (List.getElem?_eq_getElem hq2) 0 v hv'
      rwa [Nat.mul_one, Nat.add_zero] at this)
    (by rw [hlen]; exact hfit) (fun v hv => by
      obtain ⟨x, hx, hv⟩ := List.mem_flatMap.1 hv
      exact h1 x (List.mem_of_mem_take hx) v hv)
  rw [hlen] at hr
  refine gen_v (v := .int .i64 n) ?_ (hk (w.setRow b (cs.toList.take ofs ++ (s.l.take n).flatMap enc ++ cs.toList.drop (ofs + n)).toArray) (h.mut hj ?_ (cel_ok.2 (setRow_heap w b cs _ ct _ hcel)) fun x hx => .inl ?_))
  · have hy' : ρ y = .slice (some ⟨sb, so, none⟩) s.l.length s.c := by rw [hy, Sl.v, hA]
    simp [execOp, hop, resolve, invoke, builtin, hx, hy', hr, goInt]
  · refine ⟨rfl, rfl, rfl, by simp [World.setRow], fun k _ hk => setRow_other w b k _ fun e => hk ?_, Nat.le_refl _⟩
    rw [cel_dom]
    exact e
  · rw [cel_dom] at hx ⊢
    exact hx
end
end Go.Proofs.Ytdncnepedkkamaa
/- Arr: arrays in blocks, by lists of any length. No condition. -/
namespace Go.Proofs.Ytdncnepedkkamaa
set_option linter.unusedSimpArgs false
set_option linter.unusedVariables false
open Go.RowKit
theorem ar_n {s : Int} {f : Int → Prop} (k : Nat) (hs : s = (k : Int)) (hk : k ≤ 9223372036854775807) (h : f (k : Int)) : Ar .i64 s f := ar_i64 (by omega) (by rw [hs]; exact h)
theorem ar_z {s : Int} {f : Int → Prop} (k : Int) (hs : s = k) (hk : -9223372036854775808 ≤ k ∧ k ≤ 9223372036854775807) (h : f k) : Ar .i64 s f := ar_i64 (by omega) (by rw [hs]; exact h)
theorem ad1 (b k : Nat) : (⟨b, 0 + k * 1, none⟩ : Addr) = ⟨b, k, none⟩ := by rw [Nat.zero_add, Nat.mul_one]
theorem flat_one {α : Type} (f : α → Value) (l : List α) : l.flatMap (fun x => [f x]) = l.map f := by
  induction l with
  | nil => rfl
  | cons x l ih => rw [List.flatMap_cons, ih]; rfl
theorem app_step {α : Type} {l : List α} {m k : Nat} {x z : α} (h : l.length = m) : (l ++ List.replicate (k + 1) z).set m x = (l ++ [x]) ++ List.replicate k z := by
  subst h
  rw [List.set_append_right _ _ (Nat.le_refl _), Nat.sub_self, List.replicate_succ, List.set_cons_zero, List.append_assoc]
  rfl
/-- a list's cells -/
abbrev arC {α : Type} (f : α → Value) (l : List α) : Array Value := (l.map f).toArray
section
variable {α : Type} {S : Nat → Prop} {w0 w : World} {rs : List Res} {f : α → Value} {b : Nat} {t : TypeId} {l : List α}
theorem ld_arr (h : Hp S w0 w rs) (j : Nat) (hj : rs[j]? = some (cel b t (arC f l))) {a : Addr} (i : Nat) (ha : a = ⟨b, i, none⟩) {x : α} (hi : l[i]? = some x) {k : Value → Prop} (hk : k (f x)) : Ld w a k := by
  subst ha
  refine ld_cel h j hj (v := f x) ?_ hk
  simp [arC, hi]
theorem ldn_arr (h : Hp S w0 w rs) (j : Nat) (hj : rs[j]? = some (cel b t (arC f l))) {n : Nat} (hl : l.length = n) {k : Value → Prop} (hk : k (.agg (arC f l))) : LdN w ⟨b, 0, none⟩ n k :=
  ldn_all h j hj (by simp [arC, hl]) hk
theorem st_arr (h : Hp S w0 w rs) (j : Nat) (hj : rs[j]? = some (cel b t (arC f l))) {a : Addr} (i : Nat) (ha : a = ⟨b, i, none⟩) (x : α) {vs : List Value} (hv : vs = [f x]) (hi : i < l.length) (h1 : (f x).oneCell' = true) {k : World → Prop}
    (hk : ∀ w', Hp S w0 w' (rs.set j (cel b t (arC f (l.set i x)))) → k w') : St w a vs k := by
  subst ha hv
  refine st_cel h j hj (by simp [h1]) (by simp [arC]; omega) fun w' hw => hk w' ?_
  have e : lay [f x] i (arC f l) = arC f (l.set i x) := by
    simp [lay, arC, List.map_set]
  rwa [e] at hw
theorem sta_arr {cs : Array Value} (h : Hp S w0 w rs) (j : Nat) (hj : rs[j]? = some (cel b t cs)) (l : List α) {vs : List Value} (hv : vs = (arC f l).toList) (hl : l.length = cs.size) (h1 : ∀ x : α, (f x).oneCell' = true) {k : World → Prop} (hk : ∀ w', Hp S w0 w' (rs.set j (cel b t (arC f l))) → k w') : St w ⟨b, 0, none⟩ vs k := by
  subst hv
  refine st_all h j hj ?_ (by simp [arC, hl]) fun w' hw => hk w' ?_
  · simp [arC, h1]
  · simpa [arC] using hw
theorem cn_arr {n : Nat} {A : Prop} (hl : l.length = n) (h : A) : Cn ((arC f l).size = n) A := cn (by simp [arC, hl]) h
end
section
variable {α : Type} {P : Program} {w : World} {ρ : Operand → Value} {o : Oper} {g : Value → World → Prop} {t : TypeId} {x i : Operand} {f : α → Value} {l : List α}
/-- an array's element, by value -/
theorem gen_arx {e n0 : Nat} (hop : o.op = .index t x i) (ht : P.underlying t = some (.array n0 e)) (hl : layOf P e = some (false, 1)) {k : IntKind} {q : Int} (hx : ρ x = .agg (arC f l)) (hi : ρ i = .int k q) (hq : 0 ≤ q ∧ q < n0) (j : Nat) (hj : q.toNat = j) {y : α} (hy : l[j]? = some y) (hk : g (f y) w) : Gen P ρ o w g := by
  subst hj
  refine gen_v (v := f y) (w' := w) ?_ hk
  have h1 : (l.map f)[q.toNat]? = some (f y) := by simp [hy]
  have he := run_isAgg (w := w) hl
  have h2 : (part e (l.map f).toArray q.toNat).run P w = .ok (f y) w := by simp [part, he.1, h1]
  simp [execOp, hop, hx, hi, Instr.index, arC, run_underlying ht, asIntOf, hq, he.1, he.2, h2]
end
section
variable {P : Program} {w : World} {ρ : Operand → Value} {o : Oper} {g : Value → World → Prop} {t : TypeId}
/-- shifts, and the like, at 64 bits -/
theorem run_shr64 {k : IntKind} {m n : Nat} (hn : n ≤ 64) : (binOp .shr t (.int .u64 (m : Int)) (.int k n)).run P w = .ok (.int .u64 ((m / 2 ^ n : Nat) : Int)) w := by
  have h1 : ¬ ((n : Int) < 0) := by omega
  have h2 : min (n : Int).toNat 64 = n := by rw [Int.toNat_natCast]; omega
  simp only [binOp, Op.shift, IntKind.bits, h1, if_false, h2, fdiv_nat, Sem.run_pure]
theorem run_shl64 {k : IntKind} {m n : Nat} (hn : n ≤ 64) : (binOp .shl t (.int .u64 (m : Int)) (.int k n)).run P w = .ok (.int .u64 ((m * 2 ^ n % 2 ^ 64 : Nat) : Int)) w := by
  have h1 : ¬ ((n : Int) < 0) := by omega
  have h2 : min (n : Int).toNat 64 = n := by rw [Int.toNat_natCast]; omega
  have h3 : (m : Int) * 2 ^ n = ((m * 2 ^ n : Nat) : Int) := by simp
  have h4 : IntKind.u64.wrap ((m * 2 ^ n : Nat) : Int) = ((m * 2 ^ n % 2 ^ 64 : Nat) : Int) := by
    simp [IntKind.wrap, IntKind.bits, IntKind.signed]
  simp only [binOp, Op.shift, IntKind.bits, h1, if_false, h2, Sem.run_pure, h3, h4]
theorem wrap_u64 (n : Nat) : IntKind.u64.wrap (n : Int) = ((n % 2 ^ 64 : Nat) : Int) := by simp [IntKind.wrap, IntKind.bits, IntKind.signed]
theorem ofInt_u64 (n : Nat) : BitVec.ofInt 64 (n : Int) = BitVec.ofNat 64 n := by
  apply BitVec.eq_of_toNat_eq
  simp
theorem run_and64 {m n : Nat} (hm : m < 2 ^ 64) (hn : n < 2 ^ 64) : (binOp .and t (.int .u64 (m : Int)) (.int .u64 (n : Int))).run P w = .ok (.int .u64 ((m &&& n : Nat) : Int)) w := by
  have e : (IntKind.u64.wrap ((BitVec.ofInt 64 (m : Int) &&& BitVec.ofInt 64 (n : Int)).toNat : Int)) = ((m &&& n : Nat) : Int) := by
    rw [ofInt_u64, ofInt_u64, wrap_u64, BitVec.toNat_and, BitVec.toNat_ofNat, BitVec.toNat_ofNat, Nat.mod_eq_of_lt hm, Nat.mod_eq_of_lt hn, Nat.mod_eq_of_lt (Nat.lt_of_le_of_lt Nat.and_le_left hm)]
  show ((pure (Value.int .u64 _) : Sem Value).run P w) = _
  rw [Sem.run_pure, ← e]
  rfl
theorem run_xor64 {m n : Nat} (hm : m < 2 ^ 64) (hn : n < 2 ^ 64) : (binOp .xor t (.int .u64 (m : Int)) (.int .u64 (n : Int))).run P w = .ok (.int .u64 ((m ^^^ n : Nat) : Int)) w := by
  have e : (IntKind.u64.wrap ((BitVec.ofInt 64 (m : Int) ^^^ BitVec.ofInt 64 (n : Int)).toNat : Int)) = ((m ^^^ n : Nat) : Int) := by
    rw [ofInt_u64, ofInt_u64, wrap_u64, BitVec.toNat_xor, BitVec.toNat_ofNat, BitVec.toNat_ofNat, Nat.mod_eq_of_lt hm, Nat.mod_eq_of_lt hn, Nat.mod_eq_of_lt (Nat.xor_lt_two_pow hm hn)]
  show ((pure (Value.int .u64 _) : Sem Value).run P w) = _
  rw [Sem.run_pure, ← e]
  rfl
theorem gen_shr64 {a b : Operand} {t2 : TypeId} (hop : o.op = .binOp .shr t a b t2) {k : IntKind} (m n : Nat) (hx : ρ a = .int .u64 (m : Int)) {z : Int} (hy : ρ b = .int k z) (hz : z = (n : Int)) (hn : n ≤ 64) (hk : g (.int .u64 ((m / 2 ^ n : Nat) : Int)) w) : Gen P ρ o w g := by
  subst hz
  exact gen_bin hop (by rw [hx, hy]; exact guard_int ..) (by rw [hx, hy]; exact run_shr64 hn) hk
theorem gen_shl64 {a b : Operand} {t2 : TypeId} (hop : o.op = .binOp .shl t a b t2) {k : IntKind} (m n : Nat) (hx : ρ a = .int .u64 (m : Int)) {z : Int} (hy : ρ b = .int k z) (hz : z = (n : Int)) (hn : n ≤ 64) (hk : g (.int .u64 ((m * 2 ^ n % 2 ^ 64 : Nat) : Int)) w) : Gen P ρ o w g := by
  subst hz
  exact gen_bin hop (by rw [hx, hy]; exact guard_int ..) (by rw [hx, hy]; exact run_shl64 hn) hk
theorem gen_and64 {a b : Operand} {t2 : TypeId} (hop : o.op = .binOp .and t a b t2) (m n : Nat) (hx : ρ a = .int .u64 (m : Int)) (hy : ρ b = .int .u64 (n : Int)) (hm : m < 2 ^ 64) (hn : n < 2 ^ 64) (hk : g (.int .u64 ((m &&& n : Nat) : Int)) w) : Gen P ρ o w g :=
  gen_bin hop (by rw [hx, hy]; exact guard_int ..) (by rw [hx, hy]; exact run_and64 hm hn) hk
theorem gen_xor64 {a b : Operand} {t2 : TypeId} (hop : o.op = .binOp .xor t a b t2) (m n : Nat) (hx : ρ a = .int .u64 (m : Int)) (hy : ρ b = .int .u64 (n : Int)) (hm : m < 2 ^ 64) (hn : n < 2 ^ 64) (hk : g (.int .u64 ((m ^^^ n : Nat) : Int)) w) : Gen P ρ o w g :=
  gen_bin hop (by rw [hx, hy]; exact guard_int ..) (by rw [hx, hy]; exact run_xor64 hm hn) hk
theorem rd_shr64 {g : Value → Prop} {a b : Operand} {t2 : TypeId} (hop : o.op = .binOp .shr t a b t2) {k : IntKind} (m n : Nat) (hx : ρ a = .int .u64 (m : Int)) {z : Int} (hy : ρ b = .int k z) (hz : z = (n : Int)) (hn : n ≤ 64) (hk : g (.int .u64 ((m / 2 ^ n : Nat) : Int))) : Rd P ρ o w g := by
  subst hz
  exact rd_bin hop (by rw [hx, hy]; exact guard_int ..) (fun _ => by rw [hx, hy]; exact run_shr64 hn) hk
theorem rd_shl64 {g : Value → Prop} {a b : Operand} {t2 : TypeId} (hop : o.op = .binOp .shl t a b t2) {k : IntKind} (m n : Nat) (hx : ρ a = .int .u64 (m : Int)) {z : Int} (hy : ρ b = .int k z) (hz : z = (n : Int)) (hn : n ≤ 64) (hk : g (.int .u64 ((m * 2 ^ n % 2 ^ 64 : Nat) : Int))) : Rd P ρ o w g := by
  subst hz
  exact rd_bin hop (by rw [hx, hy]; exact guard_int ..) (fun _ => by rw [hx, hy]; exact run_shl64 hn) hk
theorem rd_xor64 {g : Value → Prop} {a b : Operand} {t2 : TypeId} (hop : o.op = .binOp .xor t a b t2) (m n : Nat) (hx : ρ a = .int .u64 (m : Int)) (hy : ρ b = .int .u64 (n : Int)) (hm : m < 2 ^ 64) (hn : n < 2 ^ 64) (hk : g (.int .u64 ((m ^^^ n : Nat) : Int))) : Rd P ρ o w g :=
  rd_bin hop (by rw [hx, hy]; exact guard_int ..) (fun _ => by rw [hx, hy]; exact run_xor64 hm hn) hk
end
section
variable {P : Program} {w : World} {ρ : Operand → Value} {o : Oper} {g : Value → Prop} {t : TypeId}
theorem rd_ixa {x i : Operand} (hop : o.op = .indexAddr t x i) {b ofs sz n0 : Nat} {k : IntKind} {j : Int} (hx : ρ x = .pointer (some ⟨b, ofs, none⟩)) (hi : ρ i = .int k j) (he : elemOfT P t = some (false, n0, sz)) (hj : 0 ≤ j ∧ j < n0)
    (hk : g (.pointer (some ⟨b, ofs + j.toNat * sz, none⟩))) : Rd P ρ o w g := by
  unfold elemOfT at he
  split at he
  · rename_i e hs
    split at he <;> simp at he
  · rename_i n' e hs
    split at he
    · rename_i inf hinf
      simp only [Option.some.injEq, Prod.mk.injEq, true_and] at he
      obtain ⟨rfl, rfl⟩ := he
      exact ⟨_, fun w' _ => by simp [execOp, hop, hx, hi, Instr.indexAt, Instr.sureAddr, asIntOf, run_underlying hs, hj, sizeOf, typeInfo, hinf, add_plain], hk⟩
    · cases he
  · cases he
end
theorem ar_u8n {f : Int → Prop} (n : Nat) {s : Int} (hs : s = (n : Int)) (h : f ((UInt8.ofNat n).toNat : Int)) : Ar .u8 s f := by
  subst hs
  exact ⟨_, wrap_u8 n, h⟩
theorem tmod_n (n k : Nat) : Int.tmod (n : Int) (k : Int) = ((n % k : Nat) : Int) := by rw [Int.tmod_eq_emod_of_nonneg (Int.natCast_nonneg _)]; rfl
theorem tdiv_n (n k : Nat) : Int.tdiv (n : Int) (k : Int) = ((n / k : Nat) : Int) := by rw [Int.tdiv_eq_ediv_of_nonneg (Int.natCast_nonneg _)]; rfl
end Go.Proofs.Ytdncnepedkkamaa
/- Sort0: arrays and rows; swaps; lengths in bits. No condition. -/
namespace Go.Proofs.Ytdncnepedkkamaa
set_option linter.unusedSimpArgs false
set_option linter.unusedVariables false
open Go.RowKit
section
variable {α : Type} [Inhabited α]
theorem sat_ (d : Array α) {i : Nat} (h : i < d.size) : d.toList[i]? = some d[i]! := by
  rw [Array.getElem?_toList, Array.getElem?_eq_getElem h, getElem!_pos d i h]
theorem swp_l (d : Array α) (i j : Nat) : (d.toList.set i d[j]!).set j d[i]! = (Sort.swp d i j).toList := by
  simp [Sort.swp, Array.toList_setIfInBounds]
end
section
variable {α : Type} {S : Nat → Prop} {w0 w : World} {rs : List Res} {enc : α → List Value} {e : TypeId} {sz : Nat} {s : Sl α}
/-- a whole element is written -/
theorem st_ownx {a : Addr} {vs : List Value} {k : World → Prop} (h : Hp S w0 w rs) (j : Nat) (hj : rs[j]? = some (rowR e sz enc s)) {b ofs : Nat} (hA : s.A = some ⟨b, ofs, none⟩) (i : Nat) (ha : a = ⟨b, ofs + i * sz, none⟩) (x' : α) (hv : vs = enc x')
    (hi : i < s.l.length) (hs : ∀ x : α, (enc x).length = sz) (h1 : (enc x').all Value.oneCell' = true) (hk : ∀ w', Hp S w0 w' (rs.set j (rowR e sz enc ⟨s.A, s.c, s.l.set i x'⟩)) → k w') : St w a vs k := by
  subst hv
  refine st_own h j hj hA i 0 (by rw [ha]; rfl) (List.getElem?_eq_getElem hi) x' ?_ (by rw [hs, Nat.zero_add]; exact Nat.le_refl _) h1 hk
  have key : ∀ (vs cs : List Value), cs.length = vs.length → layL vs 0 cs = vs := by
    intro vs cs hl
    have := layL_app vs [] cs [] hl
    simpa using this
  exact (key _ _ (by rw [hs, hs])).symm
/-- an own row has a place, if it holds something -/
theorem own_placeS (h : (rowR e sz enc s).ok w) : s.l.length = 0 ∨ ∃ b o, s.A = some ⟨b, o, none⟩ := by
  rcases Nat.eq_zero_or_pos s.l.length with h0 | h0
  · exact .inl h0
  · obtain ⟨b, o, x, hA, _⟩ := (rowR_at h).has h0
    exact .inr ⟨b, o, hA⟩
end
section
variable {P : Program} {w : World} {ρ : Operand → Value} {o : Oper} {g : Value → World → Prop} {t : TypeId} {x i : Operand}
theorem gen_len8 (hop : o.op = .index t x i) (ht : P.underlying t = some .string) {j : Nat} {k : IntKind} (hx : ρ x = .string Lib.len8tab) (hi : ρ i = .int k j) (hj : j ≤ 255) (hk : g (.int .u8 (Lib.bitLen j : Nat)) w) : Gen P ρ o w g := by
  have h1 := Lib.run_index_len8tab (P := P) w t k j ht (by omega) (by omega)
  have h2 := Lib.len8_eq ⟨j, by omega⟩
  simp only at h2
  rw [h2] at h1
  exact gen_v (by simp [execOp, hop, hx, hi, h1]) hk
end
/-- a length's bits -/
theorem bitLen_small : ∀ n : Fin 256, 2 ^ Lib.bitLen n.val ≤ 2 * n.val + 1 ∧ Lib.bitLen n.val ≤ 8 ∧ (0 < n.val → 2 ^ Lib.bitLen n.val ≤ 2 * n.val) := by decide +kernel
/-! ## The pure sort, step by step -/
section
variable {α : Type} [Inhabited α] {lt : α → α → Bool} {d : Array α}
theorem insOuter_step {a b i : Nat} (h : i < b) : Sort.insOuter lt a b i d = Sort.insOuter lt a b (i + 1) (Sort.insInner lt a i d) := by rw [Sort.insOuter, if_pos h]
theorem insOuter_end {a b i : Nat} (h : b ≤ i) : Sort.insOuter lt a b i d = d := by rw [Sort.insOuter, if_neg (by omega)]
theorem insInner_go {a k : Nat} (h : a < k + 1) (hl : lt d[k + 1]! d[k]! = true) : Sort.insInner lt a (k + 1) d = Sort.insInner lt a k (Sort.swp d (k + 1) k) := by
  rw [Sort.insInner, if_pos (by simp only [Bool.and_eq_true, decide_eq_true_eq]; exact ⟨h, hl⟩)]
theorem insInner_stop {a k : Nat} (hl : lt d[k + 1]! d[k]! = false) : Sort.insInner lt a (k + 1) d = d := by
  rw [Sort.insInner, if_neg (by rw [hl]; simp)]
theorem insInner_low {a j : Nat} (h : j ≤ a) : Sort.insInner lt a j d = d := by
  cases j with
  | zero => rfl
  | succ k => rw [Sort.insInner, if_neg (by simp only [Bool.and_eq_true, decide_eq_true_eq]; omega)]
theorem sift_end {hi first root : Nat} (h : hi ≤ 2 * root + 1) : Sort.siftDown lt hi first root d = d := by
  rw [Sort.siftDown, dif_pos (by omega)]
/-- the greater child, by its place -/
theorem sift_step {hi first root ch : Nat} (h : 2 * root + 1 < hi) (hc : (ch = 2 * root + 2 ∧ 2 * root + 2 < hi ∧ lt d[first + (2 * root + 1)]! d[first + (2 * root + 2)]! = true) ∨ (ch = 2 * root + 1 ∧ (hi ≤ 2 * root + 2 ∨ lt d[first + (2 * root + 1)]! d[first + (2 * root + 2)]! = false))) :
    Sort.siftDown lt hi first root d = if lt d[first + root]! d[first + ch]! = true then Sort.siftDown lt hi first ch (Sort.swp d (first + root) (first + ch)) else d := by
  have e : first + (2 * root + 1) + 1 = first + (2 * root + 2) := by omega
  rw [Sort.siftDown, dif_neg (by omega), e]
  rcases hc with ⟨rfl, h1, h2⟩ | ⟨rfl, h1⟩
  · rw [if_pos (by simp only [Bool.and_eq_true, decide_eq_true_eq]; exact ⟨by omega, h2⟩)]
    cases hl : lt d[first + root]! d[first + (2 * root + 2)]! with
    | true => rw [if_neg (by simp), dif_pos (by omega), if_pos rfl]
    | false => rw [if_pos (by simp), if_neg (by simp)]
  · rw [if_neg (by
      simp only [Bool.and_eq_true, decide_eq_true_eq]
      rintro ⟨h3, h4⟩
      rcases h1 with h1 | h1
      · omega
      · rw [h1] at h4; cases h4)]
    cases hl : lt d[first + root]! d[first + (2 * root + 1)]! with
    | true => rw [if_neg (by simp), if_pos rfl]
    | false => rw [if_pos (by simp), if_neg (by simp)]
theorem sift_size {hi first root : Nat} (d : Array α) : (Sort.siftDown lt hi first root d).size = d.size := by
  fun_induction Sort.siftDown lt hi first root d <;> simp_all [Sort.size_swp]
theorem up_go {p : α → Bool} {i j : Nat} (h : i ≤ j) (hp : p d[i]! = true) : Sort.scanUp p d j i = Sort.scanUp p d j (i + 1) := by
  rw [Sort.scanUp, if_pos (by simp only [Bool.and_eq_true, decide_eq_true_eq]; exact ⟨h, hp⟩)]
theorem up_stop {p : α → Bool} {i j : Nat} (h : j < i ∨ p d[i]! = false) : Sort.scanUp p d j i = i := by
  rw [Sort.scanUp, if_neg (by
    simp only [Bool.and_eq_true, decide_eq_true_eq]
    rintro ⟨h1, h2⟩
    rcases h with h | h
    · omega
    · rw [h] at h2; cases h2)]
theorem down_go {p : α → Bool} {i j : Nat} (h : i ≤ j + 1) (hp : p d[j + 1]! = true) : Sort.scanDown p d i (j + 1) = Sort.scanDown p d i j := by
  rw [Sort.scanDown, if_pos (by simp only [Bool.and_eq_true, decide_eq_true_eq]; exact ⟨h, hp⟩)]
theorem down_stop {p : α → Bool} {i j : Nat} (h : j = 0 ∨ j < i ∨ p d[j]! = false) : Sort.scanDown p d i j = j := by
  cases j with
  | zero => rfl
  | succ j =>
    rw [Sort.scanDown, if_neg (by
      simp only [Bool.and_eq_true, decide_eq_true_eq]
      rintro ⟨h1, h2⟩
      rcases h with h | h | h
      · omega
      · omega
      · rw [h] at h2; cases h2)]
theorem sorted_go {b i : Nat} (h : i < b) (hl : lt d[i]! d[i - 1]! = false) : Sort.scanSorted lt d b i = Sort.scanSorted lt d b (i + 1) := by
  rw [Sort.scanSorted, if_pos (by simp only [Bool.and_eq_true, decide_eq_true_eq, Bool.not_eq_eq_eq_not, Bool.not_true]; exact ⟨h, hl⟩)]
theorem sorted_stop {b i : Nat} (h : b ≤ i ∨ lt d[i]! d[i - 1]! = true) : Sort.scanSorted lt d b i = i := by
  rw [Sort.scanSorted, if_neg (by
    simp only [Bool.and_eq_true, decide_eq_true_eq, Bool.not_eq_eq_eq_not, Bool.not_true]
    rintro ⟨h1, h2⟩
    rcases h with h | h
    · omega
    · rw [h] at h2; cases h2)]
theorem sdown_go {j : Nat} (hl : lt d[j + 1]! d[j]! = true) : Sort.shiftDown lt (j + 1) d = Sort.shiftDown lt j (Sort.swp d (j + 1) j) := by
  rw [Sort.shiftDown, if_neg (by rw [hl]; simp)]
theorem sdown_stop {j : Nat} (hl : lt d[j + 1]! d[j]! = false) : Sort.shiftDown lt (j + 1) d = d := by
  rw [Sort.shiftDown, if_pos (by rw [hl]; simp)]
theorem sup_go {b j : Nat} (h : j < b) (hl : lt d[j]! d[j - 1]! = true) : Sort.shiftUp lt b j d = Sort.shiftUp lt b (j + 1) (Sort.swp d j (j - 1)) := by
  rw [Sort.shiftUp, if_pos h, if_neg (by rw [hl]; simp)]
theorem sup_stop {b j : Nat} (h : b ≤ j ∨ lt d[j]! d[j - 1]! = false) : Sort.shiftUp lt b j d = d := by
  rw [Sort.shiftUp]
  split
  · rcases h with h | h
    · omega
    · rw [if_pos (by rw [h]; simp)]
  · rfl
theorem rev_go {i j : Nat} (h : i < j) : Sort.reverseLoop i j d = Sort.reverseLoop (i + 1) (j - 1) (Sort.swp d i j) := by rw [Sort.reverseLoop, if_pos h]
theorem rev_stop {i j : Nat} (h : j ≤ i) : Sort.reverseLoop i j d = d := by rw [Sort.reverseLoop, if_neg (by omega)]
end
end Go.Proofs.Ytdncnepedkkamaa
