/- OpenB: keys, hints, blobs that came in, opened. No condition. -/
import Derived.Test.YtnmnbogdjlkmgaaOpenP
import Derived.Test.YtnmnbogdjlkmgaaShelf
namespace Go.Proofs.Ytnmnbogdjlkmgaa
set_option linter.unusedSimpArgs false
set_option linter.unusedVariables false
open Go.RowKit
set_option maxRecDepth 100000
set_option maxHeartbeats 2000000

theorem rdb_hint {H : Type} {enc : TypeId × Value → H} {w : World} {cs : List Value} (h : Rdb enc Try.prog w 31 cs) : ∃ x : Hint, cs = x.c := by
  obtain ⟨l, hl, rfl⟩ := rdb_u8s (n := 16) (by kernel_rfl) (by kernel_rfl) h
  refine ⟨⟨l.toArray, by simpa using hl⟩, ?_⟩
  have := congrArg Array.toList (Hint.cells ⟨l.toArray, by simpa using hl⟩)
  rw [List.toList_toArray, List.toList_toArray] at this
  exact this
theorem rdb_blob {H : Type} {enc : TypeId × Value → H} {w : World} {cs : List Value} (h : Rdb enc Try.prog w 33 cs) : ∃ x : Blob, cs = x.c ∧ SlAt w.heap.size w u8L 1 x.data := by
  obtain ⟨hl, hf⟩ := rdb_struct (fs := Try.prog.fieldsOf 33) (by kernel_rfl) h
  obtain ⟨a, ha⟩ := rdb_u32 (cs := (cs.drop 0).take 1) (hf 0 _ rfl)
  obtain ⟨b, hb⟩ := rdb_u32 (cs := (cs.drop 1).take 1) (hf 1 _ rfl)
  obtain ⟨i, hi⟩ := rdb_hint (cs := (cs.drop 2).take 16) (hf 2 _ rfl)
  obtain ⟨p, hp, hat⟩ := rdb_bytes (cs := (cs.drop 18).take 1) (hf 3 _ rfl)
  have h3 : cs.drop 19 = [] := List.drop_eq_nil_of_le (by rw [hl]; exact Nat.le_of_eq (by kernel_rfl))
  have h1 := drop_split cs 0 1
  rw [drop_split cs (0 + 1) 1, drop_split cs (0 + 1 + 1) 16, drop_split cs (0 + 1 + 1 + 16) 1, ha, hb, hi, hp, h3, List.drop_zero] at h1
  exact ⟨⟨⟨a, b⟩, i, p⟩, h1, hat⟩
end Go.Proofs.Ytnmnbogdjlkmgaa
