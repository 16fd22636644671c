/- OpenK: blocks, lists of ids that came in, opened. No condition. -/
import Derived.Test.YthcapeihhldpcaaOpenP
import Derived.Test.YthcapeihhldpcaaBlkT
namespace Go.Proofs.Ythcapeihhldpcaa
set_option linter.unusedSimpArgs false
set_option linter.unusedVariables false
open Go.RowKit
set_option maxRecDepth 100000
set_option maxHeartbeats 2000000

theorem rdb_ids {H : Type} {enc : TypeId × Value → H} {w : World} {cs : List Value} (h : Rdb enc Try.prog w 56 cs) : ∃ s : Sl Id, cs = [s.v] ∧ SlAt w.heap.size w Id.c 32 s := by
  obtain ⟨s, h1, h2, _⟩ := rdb_slice (ec := Id.c) (sz := 32) (Q := fun _ => True) Try.underlying56 (by kernel_rfl) (by omega) (fun c _ hc => by
    obtain ⟨x, hx⟩ := rdb_id hc
    exact ⟨x, hx, trivial⟩) h
  exact ⟨s, h1, h2⟩
theorem rdb_blk {H : Type} {enc : TypeId × Value → H} {w : World} {cs : List Value} (h : Rdb enc Try.prog w 58 cs) : ∃ x : Blk, cs = x.c ∧ SlAt w.heap.size w Id.c 32 x.tx := by
  obtain ⟨hl, hf⟩ := rdb_struct (fs := Try.prog.fieldsOf 58) (by kernel_rfl) h
  obtain ⟨a, ha⟩ := rdb_id (cs := (cs.drop 0).take 32) (hf 0 _ rfl)
  obtain ⟨b, hb⟩ := rdb_id (cs := (cs.drop 32).take 32) (hf 1 _ rfl)
  obtain ⟨s, hs, hat⟩ := rdb_ids (cs := (cs.drop 64).take 1) (hf 2 _ rfl)
  have h3 : cs.drop 65 = [] := List.drop_eq_nil_of_le (by rw [hl]; exact Nat.le_of_eq (by kernel_rfl))
  have h1 := drop_split cs 0 32
  rw [drop_split cs (0 + 32) 32, drop_split cs (0 + 32 + 32) 1, ha, hb, hs, h3, List.drop_zero] at h1
  exact ⟨⟨a, b, s⟩, h1, hat⟩
end Go.Proofs.Ythcapeihhldpcaa
