/- OpenE: the pool's operations that came in, opened. No condition. -/
import Derived.Test.YthcapeihhldpcaaOpenS
import Derived.Test.YthcapeihhldpcaaOpenK
import Derived.Test.YthcapeihhldpcaaPoolDoes
namespace Go.Proofs.Ythcapeihhldpcaa
set_option linter.unusedSimpArgs false
set_option linter.unusedVariables false
open Go.RowKit
set_option maxRecDepth 100000
set_option maxHeartbeats 2000000

theorem rdb_opp {H : Type} {enc : TypeId × Value → H} {w : World} {cs : List Value} (h : Rdb enc Try.prog w 98 cs) : ∃ x : Opp, cs = x.c ∧ (SlAt w.heap.size w u8L 1 x.s.tx ∧ SlAt w.heap.size w Id.c 32 x.b.tx) := by
  obtain ⟨hl, hf⟩ := rdb_struct (fs := Try.prog.fieldsOf 98) (by kernel_rfl) h
  obtain ⟨n, hn, _⟩ := rdb_int Try.underlying3 (cs := (cs.drop 0).take 1) (hf 0 _ rfl)
  obtain ⟨s, hs, hat⟩ := rdb_sub (cs := (cs.drop 1).take 37) (hf 1 _ rfl)
  obtain ⟨b, hb, hbt⟩ := rdb_blk (cs := (cs.drop 38).take 65) (hf 2 _ rfl)
  have h3 : cs.drop 103 = [] := List.drop_eq_nil_of_le (by rw [hl]; exact Nat.le_of_eq (by kernel_rfl))
  have h1 := drop_split cs 0 1
  rw [drop_split cs (0 + 1) 37, drop_split cs (0 + 1 + 37) 65, hn, hs, hb, h3, List.drop_zero] at h1
  exact ⟨⟨n, s, b⟩, h1, hat, hbt⟩
end Go.Proofs.Ythcapeihhldpcaa
