/- EqI: equality of ids; tools. No condition. -/
import Derived.Test.YthcapeihhldpcaaTypes
import Derived.Stop.BytesEq
namespace Go.Proofs.Ythcapeihhldpcaa
set_option linter.unusedSimpArgs false
set_option linter.unusedVariables false
open Go.RowKit
set_option maxRecDepth 100000
set_option maxHeartbeats 2000000

theorem eqis_of {P : Program} {t : TypeId} {xs ys : Array Value} {fs : Array Field} {b : Bool} (ht : P.underlying t = some (.struct fs)) (hp : P.stoodInHeld t = false) (h : ∀ w, (Op.eqFields 9999 xs ys fs.toList).run P w = .ok b w) : EqIs P t (.agg xs) (.agg ys) b := fun w => by
  have hfs : P.fieldsOf t = fs := by simp [Program.fieldsOf, ht]
  have := run_equalIn_struct (P := P) w 9999 t xs ys (by rw [hfs]; exact ht) hp
  rw [hfs, h w] at this
  exact this
theorem Id.cells (x : Id) : (x.toList.map Extern.Stop.cell).toArray = x.c.toArray := by
  have h : x.toList = (List.finRange 32).map fun i => x[i] := by
    apply List.ext_getElem
    · simp
    · intro i h1 h2; simp
  rw [h]
  rfl
theorem eq_id (x y : Id) : EqIs Try.prog 55 x.v y.v (decide (x = y)) := fun w => by
  have h := run_equalIn_bytes (P := Try.prog) w 9998 55 5 32 (by kernel_rfl) Try.underlying5 (fun w => by rfl) x.toList y.toList (by simp) (by simp)
  rw [Id.cells, Id.cells] at h
  have e : (x.toList == y.toList) = decide (x = y) := by
    rw [Bool.eq_iff_iff]
    simp
  rw [e] at h
  exact h
theorem eqf_nil {P : Program} {w : World} {d : Nat} {xs ys : Array Value} : (Op.eqFields d xs ys []).run P w = .ok true w := by simp [Op.eqFields]
theorem eqf_cons {P : Program} {w : World} {d : Nat} {xs ys : Array Value} {f : Field} {fs : List Field} {x y : Value} {b r : Bool} (hn : f.name ≠ "_") (hx : (part f.type xs f.offset).run P w = .ok x w) (hy : (part f.type ys f.offset).run P w = .ok y w)
    (he : (Op.equalIn d f.type x y).run P w = .ok b w) (hr : (Op.eqFields d xs ys fs).run P w = .ok r w) : (Op.eqFields d xs ys (f :: fs)).run P w = .ok (b && r) w := by
  simp only [Op.eqFields, hn, ne_eq, not_false_eq_true, if_true, Sem.run_bind, hx, hy, he, Result.andThen_ok]
  cases b
  · simp
  · simpa using hr
theorem part_word {P : Program} {w : World} {t : TypeId} {xs : Array Value} {off n : Nat} {v : Value} (hl : layOf P t = some (false, n)) (hv : xs[off]? = some v) : (part t xs off).run P w = .ok v w := by
  have h1 := (run_isAgg (w := w) hl).1
  simp [part, h1, hv]
theorem part_agg {P : Program} {w : World} {t : TypeId} {xs : Array Value} {off n : Nat} {ys : Array Value} (hl : layOf P t = some (true, n)) (hv : xs.extract off (off + n) = ys) : (part t xs off).run P w = .ok (.agg ys) w := by
  obtain ⟨h1, h2⟩ := run_isAgg (w := w) hl
  simp [part, h1, h2, hv]
theorem u32_eq (a b : UInt32) : (((a.toNat : Int) == (b.toNat : Int)) : Bool) = decide (a = b) := by
  rw [Bool.eq_iff_iff]
  simp [← UInt32.toNat_inj]
  omega
end Go.Proofs.Ythcapeihhldpcaa
