/- Sub: what is left of a row; slices outside what is changed. No condition. -/
import Derived.Test.YthcapeihhldpcaaArr
namespace Go.Proofs.Ythcapeihhldpcaa
set_option linter.unusedSimpArgs false
set_option linter.unusedVariables false
open Go.RowKit

section
variable {α : Type} {B : Nat} {S : Nat → Prop} {w w' : World} {enc : α → List Value} {sz lo : Nat} {R s : Sl α}
theorem SlAt.keepS (h : SlAt B w enc sz s) (hc : Chg S w w') (hn : s.l ≠ [] → ∀ b o, s.A = some ⟨b, o, none⟩ → ¬ S b) : SlAt B w' enc sz s :=
  ⟨h.le, h.max, h.nil, fun hne => by
    obtain ⟨b, o, h1, h2, h3⟩ := h.row hne
    exact ⟨b, o, h1, h2, h3.keep hc (hn hne b o h1)⟩⟩
/-- what is left of a row behind so many things -/
structure Part (R s : Sl α) (sz lo : Nat) : Prop where
  l : s.l = R.l.drop lo
  c : s.c = R.c - lo
  nil : s.A = none → s.c = 0
  at_ : s.l ≠ [] → ∃ b o, R.A = some ⟨b, o, none⟩ ∧ s.A = some ⟨b, o + lo * sz, none⟩
theorem Part.start (h : SlAt B w enc sz R) : Part R R sz 0 := ⟨rfl, rfl, h.nil, fun hn => by
  obtain ⟨b, o, hA, _⟩ := h.row hn
  exact ⟨b, o, hA, by rw [hA, Nat.zero_mul, Nat.add_zero]⟩⟩
theorem Part.slat (h : Part R s sz lo) (hR : SlAt B w enc sz R) : SlAt B w enc sz s := by
  have hle := hR.le
  have hmax := hR.max
  refine ⟨by rw [h.l, h.c, List.length_drop]; omega, by rw [h.c]; omega, h.nil, fun hn => ?_⟩
  obtain ⟨b, o, h1, h2⟩ := h.at_ hn
  have hRn : R.l ≠ [] := fun e => hn (by rw [h.l, e, List.drop_nil])
  obtain ⟨b', o', h3, h4, h5⟩ := hR.row hRn
  rw [h1] at h3
  cases h3
  refine ⟨b, o + lo * sz, h2, h4, fun i x hi j v hj => ?_⟩
  rw [h.l, List.getElem?_drop] at hi
  have := h5 (lo + i) x hi j v hj
  rwa [show o + lo * sz + i * sz + j = o + (lo + i) * sz + j from by rw [Nat.add_mul]; omega]
theorem Part.cut (h : Part R s sz lo) (hs : s.l.length ≤ s.c) {k : Nat} (hk : k ≤ s.l.length) : Part R (s.cut sz k s.l.length) sz (lo + k) := by
  refine ⟨?_, ?_, fun hA => ?_, fun hn => ?_⟩
  · show (s.l.take s.l.length).drop k = _
    rw [List.take_length, h.l, List.drop_drop]
  · show s.c - k = _
    rw [h.c]; omega
  · show s.c - k = 0
    by_cases hc : s.c = k
    · omega
    · simp only [Sl.cut, hc, if_false, Option.map_eq_none_iff] at hA
      have := h.nil hA
      omega
  · have hl : 0 < (s.cut sz k s.l.length).l.length := List.length_pos_iff.2 hn
    rw [Sl.cut_len (Nat.le_refl _)] at hl
    obtain ⟨b, o, h1, h2⟩ := h.at_ (List.length_pos_iff.1 (by omega))
    refine ⟨b, o, h1, ?_⟩
    simp only [Sl.cut]
    rw [if_neg (by omega), h2, Option.map_some, add_plain, Nat.add_assoc, Nat.add_mul]
end
section
variable {α : Type} {P : Program} {w : World} {ρ : Operand → Value} {o : Oper} {g : Value → Prop} {t e : TypeId} {sz bytes : Nat} {x : Operand}
theorem rd_cuth {hi : Operand} (hop : o.op = .slice t x none (some hi) none) (hE : ElT P t e sz bytes) (s : Sl α) (hx : ρ x = s.v) (hc : s.l.length ≤ s.c) {k : IntKind} {m : Int} (hh : ρ hi = .int k m) {h : Nat} (hm : m = h) (h2 : h ≤ s.l.length) (hk : g (s.cut sz 0 h).v) : Rd P ρ o w g := by
  subst hm
  obtain ⟨ht, i, z, hi', _, hs, _⟩ := hE
  exact ⟨_, fun w' _ => run_cut hop ht ⟨i, hi', hs⟩ s hx hc (l := 0) (h := h) rfl ⟨k, hh⟩ (Nat.zero_le _) h2, hk⟩
theorem rd_arr (hop : o.op = .slice t x none none none) {n : Nat} (ht : P.underlying t = some (.array n e)) {b ofs : Nat} (hx : ρ x = .pointer (some ⟨b, ofs, none⟩)) (he : (P.info? e).isSome = true) (l : List α) (hl : l.length = n) (hk : g (arrS b ofs l).v) : Rd P ρ o w g := by
  obtain ⟨i, hi⟩ := Option.isSome_iff_exists.1 he
  subst hl
  refine ⟨(arrS b ofs l).v, fun w' _ => ?_, hk⟩
  by_cases h0 : l.length = 0 <;> simp [execOp, hop, hx, Instr.sliceAt, Instr.sureAddr, run_underlying ht, Instr.sliceBounds, sizeOf, typeInfo, hi, arrS, add_plain, h0]
end
theorem u8_one {l : List UInt8} : ∀ x ∈ l, ∀ u ∈ u8L x, u.oneCell' = true := fun x _ u hu => by
  simp only [u8L, List.mem_singleton] at hu
  subst hu
  rfl
end Go.Proofs.Ythcapeihhldpcaa
