/- Cel: made rows as cells. No condition. -/
import Derived.Test.YthcapeihhldpcaaDoorOut
import Derived.Laws.OwnMore
namespace Go.Proofs.YthcapeihhldpcaaDoor
set_option linter.unusedSimpArgs false
set_option linter.unusedVariables false
open Go.RowKit
set_option maxRecDepth 100000
set_option maxHeartbeats 2000000

section
variable {P : Program} {S : Nat → Prop} {w0 w : World} {rs : List Res} {ρ : Operand → Value} {o : Oper} {g : Value → World → Prop} {t e : TypeId}
theorem gen_makeC {i : TypeInfo} {z : Value} {len cap : Operand} (hop : o.op = .makeSlice t len cap) (h : Hp S w0 w rs) (ht : P.underlying t = some (.slice e)) (hi : P.info? e = some i) (hz : i.zero = some z) {kl kc : IntKind} {m m2 : Int} (n : Nat) (hl : ρ len = .int kl m) (hc : ρ cap = .int kc m2) (hm : m = n) (hm2 : m2 = n) (hb : i.bytes * n ≤ 281474976710656) (h63 : n ≤ maxLen)
    (hk : ∀ b w', Hp S w0 w' (cel b e (madeCells z.cells (n * i.size)) :: rs) → g (.slice (some ⟨b, 0, none⟩) n n) w') : Gen P ρ o w g := by
  subst hm hm2
  have h63' : (n : Int) ≤ 9223372036854775807 := by
    have h := h63
    simp [maxLen] at h
    omega
  have hb' : (i.bytes : Int) * (n : Int) ≤ 281474976710656 := by
    have h : ((i.bytes * n : Nat) : Int) ≤ 281474976710656 := by omega
    rwa [Int.natCast_mul] at h
  have hr := run_make (P := P) (w := w) t e i z ht hi hz kl kc n n (by omega) (Int.le_refl _) hb' h63'
  simp only [Int.toNat_natCast] at hr
  refine gen_v (v := .slice (some ⟨w.heap.size, 0, none⟩) n n) (w' := w.alloc (.cells (madeCells z.cells (n * i.size)) e)) (by simp [execOp, hop, hl, hc, hr]) (hk w.heap.size _ (h.new ((Chg.refl _ _).alloc _) ?_ fun c hc => ?_))
  · exact cel_ok.2 (heap_alloc_new w _)
  · have : c = w.heap.size := cel_dom.1 hc
    omega
theorem Hp.cel_row {α : Type} {enc : α → List Value} {sz b : Nat} {cs : Array Value} (h : Hp S w0 w (cel b e cs :: rs)) (l : List α) (hl : ∀ x ∈ l, (enc x).length = sz) (hc : cs.toList = l.flatMap enc) (hm : l.length ≤ maxLen) : Hp S w0 w (rowR e sz enc ⟨some ⟨b, 0, none⟩, l.length, l⟩ :: rs) := by
  have hlen : (l.flatMap enc).length = l.length * sz := flat_len hl
  refine h.mut (j := 0) rfl (Chg.refl _ _) (rowR_ok.2 ⟨⟨hlen, .inr ⟨b, l.length, cs, rfl, Nat.zero_le _, cel_ok.1 (h.get (j := 0) rfl), Nat.le_refl _, hm, ?_, ?_⟩⟩, hl⟩) fun c hb => ?_
  · rw [← Array.length_toList, hc, hlen]
  · rw [hc]
    exact List.take_of_length_le (Nat.le_of_eq hlen)
  · rw [rowR_dom] at hb
    have hb : b = c := Option.some.inj hb
    exact .inl (cel_dom.2 hb.symm)
end
end Go.Proofs.YthcapeihhldpcaaDoor
