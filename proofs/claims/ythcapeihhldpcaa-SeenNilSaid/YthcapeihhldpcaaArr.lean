/- Arr: arrays in blocks, by lists of any length. No condition. -/
import Derived.Test.YthcapeihhldpcaaBits
namespace Go.Proofs.Ythcapeihhldpcaa
set_option linter.unusedSimpArgs false
set_option linter.unusedVariables false
open Go.RowKit

theorem ar_n {s : Int} {f : Int → Prop} (k : Nat) (hs : s = (k : Int)) (hk : k ≤ 9223372036854775807) (h : f (k : Int)) : Ar .i64 s f := ar_i64 (by omega) (by rw [hs]; exact h)
theorem ar_z {s : Int} {f : Int → Prop} (k : Int) (hs : s = k) (hk : -9223372036854775808 ≤ k ∧ k ≤ 9223372036854775807) (h : f k) : Ar .i64 s f := ar_i64 (by omega) (by rw [hs]; exact h)
theorem ad1 (b k : Nat) : (⟨b, 0 + k * 1, none⟩ : Addr) = ⟨b, k, none⟩ := by rw [Nat.zero_add, Nat.mul_one]
theorem flat_one {α : Type} (f : α → Value) (l : List α) : l.flatMap (fun x => [f x]) = l.map f := by
  induction l with
  | nil => rfl
  | cons x l ih => rw [List.flatMap_cons, ih]; rfl
theorem app_step {α : Type} {l : List α} {m k : Nat} {x z : α} (h : l.length = m) : (l ++ List.replicate (k + 1) z).set m x = (l ++ [x]) ++ List.replicate k z := by
  subst h
  rw [List.set_append_right _ _ (Nat.le_refl _), Nat.sub_self, List.replicate_succ, List.set_cons_zero, List.append_assoc]
  rfl
/-- a list's cells -/
abbrev arC {α : Type} (f : α → Value) (l : List α) : Array Value := (l.map f).toArray
section
variable {α : Type} {S : Nat → Prop} {w0 w : World} {rs : List Res} {f : α → Value} {b : Nat} {t : TypeId} {l : List α}
theorem ld_arr (h : Hp S w0 w rs) (j : Nat) (hj : rs[j]? = some (cel b t (arC f l))) {a : Addr} (i : Nat) (ha : a = ⟨b, i, none⟩) {x : α} (hi : l[i]? = some x) {k : Value → Prop} (hk : k (f x)) : Ld w a k := by
  subst ha
  refine ld_cel h j hj (v := f x) ?_ hk
  simp [arC, hi]
theorem ldn_arr (h : Hp S w0 w rs) (j : Nat) (hj : rs[j]? = some (cel b t (arC f l))) {n : Nat} (hl : l.length = n) {k : Value → Prop} (hk : k (.agg (arC f l))) : LdN w ⟨b, 0, none⟩ n k :=
  ldn_all h j hj (by simp [arC, hl]) hk
theorem st_arr (h : Hp S w0 w rs) (j : Nat) (hj : rs[j]? = some (cel b t (arC f l))) {a : Addr} (i : Nat) (ha : a = ⟨b, i, none⟩) (x : α) {vs : List Value} (hv : vs = [f x]) (hi : i < l.length) (h1 : (f x).oneCell' = true) {k : World → Prop}
    (hk : ∀ w', Hp S w0 w' (rs.set j (cel b t (arC f (l.set i x)))) → k w') : St w a vs k := by
  subst ha hv
  refine st_cel h j hj (by simp [h1]) (by simp [arC]; omega) fun w' hw => hk w' ?_
  have e : lay [f x] i (arC f l) = arC f (l.set i x) := by
    simp [lay, arC, List.map_set]
  rwa [e] at hw
theorem sta_arr {cs : Array Value} (h : Hp S w0 w rs) (j : Nat) (hj : rs[j]? = some (cel b t cs)) (l : List α) {vs : List Value} (hv : vs = (arC f l).toList) (hl : l.length = cs.size) (h1 : ∀ x : α, (f x).oneCell' = true) {k : World → Prop} (hk : ∀ w', Hp S w0 w' (rs.set j (cel b t (arC f l))) → k w') : St w ⟨b, 0, none⟩ vs k := by
  subst hv
  refine st_all h j hj ?_ (by simp [arC, hl]) fun w' hw => hk w' ?_
  · simp [arC, h1]
  · simpa [arC] using hw
theorem cn_arr {n : Nat} {A : Prop} (hl : l.length = n) (h : A) : Cn ((arC f l).size = n) A := cn (by simp [arC, hl]) h
end
section
variable {α : Type} {P : Program} {w : World} {ρ : Operand → Value} {o : Oper} {g : Value → World → Prop} {t : TypeId} {x i : Operand} {f : α → Value} {l : List α}
/-- an array's element, by value -/
theorem gen_arx {e n0 : Nat} (hop : o.op = .index t x i) (ht : P.underlying t = some (.array n0 e)) (hl : layOf P e = some (false, 1)) {k : IntKind} {q : Int} (hx : ρ x = .agg (arC f l)) (hi : ρ i = .int k q) (hq : 0 ≤ q ∧ q < n0) (j : Nat) (hj : q.toNat = j) {y : α} (hy : l[j]? = some y) (hk : g (f y) w) : Gen P ρ o w g := by
  subst hj
  refine gen_v (v := f y) (w' := w) ?_ hk
  have h1 : (l.map f)[q.toNat]? = some (f y) := by simp [hy]
  have he := run_isAgg (w := w) hl
  have h2 : (part e (l.map f).toArray q.toNat).run P w = .ok (f y) w := by simp [part, he.1, h1]
  simp [execOp, hop, hx, hi, Instr.index, arC, run_underlying ht, asIntOf, hq, he.1, he.2, h2]
end
section
variable {P : Program} {w : World} {ρ : Operand → Value} {o : Oper} {g : Value → World → Prop} {t : TypeId}
/-- shifts, and the like, at 64 bits -/
theorem run_shr64 {k : IntKind} {m n : Nat} (hn : n ≤ 64) : (binOp .shr t (.int .u64 (m : Int)) (.int k n)).run P w = .ok (.int .u64 ((m / 2 ^ n : Nat) : Int)) w := by
  have h1 : ¬ ((n : Int) < 0) := by omega
  have h2 : min (n : Int).toNat 64 = n := by rw [Int.toNat_natCast]; omega
  simp only [binOp, Op.shift, IntKind.bits, h1, if_false, h2, fdiv_nat, Sem.run_pure]
theorem run_shl64 {k : IntKind} {m n : Nat} (hn : n ≤ 64) : (binOp .shl t (.int .u64 (m : Int)) (.int k n)).run P w = .ok (.int .u64 ((m * 2 ^ n % 2 ^ 64 : Nat) : Int)) w := by
  have h1 : ¬ ((n : Int) < 0) := by omega
  have h2 : min (n : Int).toNat 64 = n := by rw [Int.toNat_natCast]; omega
  have h3 : (m : Int) * 2 ^ n = ((m * 2 ^ n : Nat) : Int) := by simp
  have h4 : IntKind.u64.wrap ((m * 2 ^ n : Nat) : Int) = ((m * 2 ^ n % 2 ^ 64 : Nat) : Int) := by
    simp [IntKind.wrap, IntKind.bits, IntKind.signed]
  simp only [binOp, Op.shift, IntKind.bits, h1, if_false, h2, Sem.run_pure, h3, h4]
theorem wrap_u64 (n : Nat) : IntKind.u64.wrap (n : Int) = ((n % 2 ^ 64 : Nat) : Int) := by simp [IntKind.wrap, IntKind.bits, IntKind.signed]
theorem ofInt_u64 (n : Nat) : BitVec.ofInt 64 (n : Int) = BitVec.ofNat 64 n := by
  apply BitVec.eq_of_toNat_eq
  simp
theorem run_and64 {m n : Nat} (hm : m < 2 ^ 64) (hn : n < 2 ^ 64) : (binOp .and t (.int .u64 (m : Int)) (.int .u64 (n : Int))).run P w = .ok (.int .u64 ((m &&& n : Nat) : Int)) w := by
  have e : (IntKind.u64.wrap ((BitVec.ofInt 64 (m : Int) &&& BitVec.ofInt 64 (n : Int)).toNat : Int)) = ((m &&& n : Nat) : Int) := by
    rw [ofInt_u64, ofInt_u64, wrap_u64, BitVec.toNat_and, BitVec.toNat_ofNat, BitVec.toNat_ofNat, Nat.mod_eq_of_lt hm, Nat.mod_eq_of_lt hn, Nat.mod_eq_of_lt (Nat.lt_of_le_of_lt Nat.and_le_left hm)]
  show ((pure (Value.int .u64 _) : Sem Value).run P w) = _
  rw [Sem.run_pure, ← e]
  rfl
theorem run_xor64 {m n : Nat} (hm : m < 2 ^ 64) (hn : n < 2 ^ 64) : (binOp .xor t (.int .u64 (m : Int)) (.int .u64 (n : Int))).run P w = .ok (.int .u64 ((m ^^^ n : Nat) : Int)) w := by
  have e : (IntKind.u64.wrap ((BitVec.ofInt 64 (m : Int) ^^^ BitVec.ofInt 64 (n : Int)).toNat : Int)) = ((m ^^^ n : Nat) : Int) := by
    rw [ofInt_u64, ofInt_u64, wrap_u64, BitVec.toNat_xor, BitVec.toNat_ofNat, BitVec.toNat_ofNat, Nat.mod_eq_of_lt hm, Nat.mod_eq_of_lt hn, Nat.mod_eq_of_lt (Nat.xor_lt_two_pow hm hn)]
  show ((pure (Value.int .u64 _) : Sem Value).run P w) = _
  rw [Sem.run_pure, ← e]
  rfl
theorem gen_shr64 {a b : Operand} {t2 : TypeId} (hop : o.op = .binOp .shr t a b t2) {k : IntKind} (m n : Nat) (hx : ρ a = .int .u64 (m : Int)) {z : Int} (hy : ρ b = .int k z) (hz : z = (n : Int)) (hn : n ≤ 64) (hk : g (.int .u64 ((m / 2 ^ n : Nat) : Int)) w) : Gen P ρ o w g := by
  subst hz
  exact gen_bin hop (by rw [hx, hy]; exact guard_int ..) (by rw [hx, hy]; exact run_shr64 hn) hk
theorem gen_shl64 {a b : Operand} {t2 : TypeId} (hop : o.op = .binOp .shl t a b t2) {k : IntKind} (m n : Nat) (hx : ρ a = .int .u64 (m : Int)) {z : Int} (hy : ρ b = .int k z) (hz : z = (n : Int)) (hn : n ≤ 64) (hk : g (.int .u64 ((m * 2 ^ n % 2 ^ 64 : Nat) : Int)) w) : Gen P ρ o w g := by
  subst hz
  exact gen_bin hop (by rw [hx, hy]; exact guard_int ..) (by rw [hx, hy]; exact run_shl64 hn) hk
theorem gen_and64 {a b : Operand} {t2 : TypeId} (hop : o.op = .binOp .and t a b t2) (m n : Nat) (hx : ρ a = .int .u64 (m : Int)) (hy : ρ b = .int .u64 (n : Int)) (hm : m < 2 ^ 64) (hn : n < 2 ^ 64) (hk : g (.int .u64 ((m &&& n : Nat) : Int)) w) : Gen P ρ o w g :=
  gen_bin hop (by rw [hx, hy]; exact guard_int ..) (by rw [hx, hy]; exact run_and64 hm hn) hk
theorem gen_xor64 {a b : Operand} {t2 : TypeId} (hop : o.op = .binOp .xor t a b t2) (m n : Nat) (hx : ρ a = .int .u64 (m : Int)) (hy : ρ b = .int .u64 (n : Int)) (hm : m < 2 ^ 64) (hn : n < 2 ^ 64) (hk : g (.int .u64 ((m ^^^ n : Nat) : Int)) w) : Gen P ρ o w g :=
  gen_bin hop (by rw [hx, hy]; exact guard_int ..) (by rw [hx, hy]; exact run_xor64 hm hn) hk
theorem rd_shr64 {g : Value → Prop} {a b : Operand} {t2 : TypeId} (hop : o.op = .binOp .shr t a b t2) {k : IntKind} (m n : Nat) (hx : ρ a = .int .u64 (m : Int)) {z : Int} (hy : ρ b = .int k z) (hz : z = (n : Int)) (hn : n ≤ 64) (hk : g (.int .u64 ((m / 2 ^ n : Nat) : Int))) : Rd P ρ o w g := by
  subst hz
  exact rd_bin hop (by rw [hx, hy]; exact guard_int ..) (fun _ => by rw [hx, hy]; exact run_shr64 hn) hk
theorem rd_shl64 {g : Value → Prop} {a b : Operand} {t2 : TypeId} (hop : o.op = .binOp .shl t a b t2) {k : IntKind} (m n : Nat) (hx : ρ a = .int .u64 (m : Int)) {z : Int} (hy : ρ b = .int k z) (hz : z = (n : Int)) (hn : n ≤ 64) (hk : g (.int .u64 ((m * 2 ^ n % 2 ^ 64 : Nat) : Int))) : Rd P ρ o w g := by
  subst hz
  exact rd_bin hop (by rw [hx, hy]; exact guard_int ..) (fun _ => by rw [hx, hy]; exact run_shl64 hn) hk
theorem rd_xor64 {g : Value → Prop} {a b : Operand} {t2 : TypeId} (hop : o.op = .binOp .xor t a b t2) (m n : Nat) (hx : ρ a = .int .u64 (m : Int)) (hy : ρ b = .int .u64 (n : Int)) (hm : m < 2 ^ 64) (hn : n < 2 ^ 64) (hk : g (.int .u64 ((m ^^^ n : Nat) : Int))) : Rd P ρ o w g :=
  rd_bin hop (by rw [hx, hy]; exact guard_int ..) (fun _ => by rw [hx, hy]; exact run_xor64 hm hn) hk
end
section
variable {P : Program} {w : World} {ρ : Operand → Value} {o : Oper} {g : Value → Prop} {t : TypeId}
theorem rd_ixa {x i : Operand} (hop : o.op = .indexAddr t x i) {b ofs sz n0 : Nat} {k : IntKind} {j : Int} (hx : ρ x = .pointer (some ⟨b, ofs, none⟩)) (hi : ρ i = .int k j) (he : elemOfT P t = some (false, n0, sz)) (hj : 0 ≤ j ∧ j < n0)
    (hk : g (.pointer (some ⟨b, ofs + j.toNat * sz, none⟩))) : Rd P ρ o w g := by
  unfold elemOfT at he
  split at he
  · rename_i e hs
    split at he <;> simp at he
  · rename_i n' e hs
    split at he
    · rename_i inf hinf
      simp only [Option.some.injEq, Prod.mk.injEq, true_and] at he
      obtain ⟨rfl, rfl⟩ := he
      exact ⟨_, fun w' _ => by simp [execOp, hop, hx, hi, Instr.indexAt, Instr.sureAddr, asIntOf, run_underlying hs, hj, sizeOf, typeInfo, hinf, add_plain], hk⟩
    · cases he
  · cases he
end
theorem ar_u8n {f : Int → Prop} (n : Nat) {s : Int} (hs : s = (n : Int)) (h : f ((UInt8.ofNat n).toNat : Int)) : Ar .u8 s f := by
  subst hs
  exact ⟨_, wrap_u8 n, h⟩
theorem tmod_n (n k : Nat) : Int.tmod (n : Int) (k : Int) = ((n % k : Nat) : Int) := by rw [Int.tmod_eq_emod_of_nonneg (Int.natCast_nonneg _)]; rfl
theorem tdiv_n (n k : Nat) : Int.tdiv (n : Int) (k : Int) = ((n / k : Nat) : Int) := by rw [Int.tdiv_eq_ediv_of_nonneg (Int.natCast_nonneg _)]; rfl
end Go.Proofs.Ythcapeihhldpcaa
