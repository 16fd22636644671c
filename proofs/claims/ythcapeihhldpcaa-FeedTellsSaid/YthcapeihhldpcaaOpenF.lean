/- OpenF: lists of blocks that came in, opened. No condition. -/
import Derived.Test.YthcapeihhldpcaaOpenK
import Derived.Test.YthcapeihhldpcaaTree3
namespace Go.Proofs.Ythcapeihhldpcaa
set_option linter.unusedSimpArgs false
set_option linter.unusedVariables false
open Go.RowKit
set_option maxRecDepth 100000
set_option maxHeartbeats 2000000

theorem rdb_blks {H : Type} {enc : TypeId × Value → H} {w : World} {cs : List Value} (h : Rdb enc Try.prog w 60 cs) : ∃ s : Sl Blk, cs = [s.v] ∧ BlksAt w.heap.size w s := by
  obtain ⟨s, h1, h2, h3⟩ := rdb_slice (ec := Blk.c) (sz := 65) (Q := fun x => SlAt w.heap.size w Id.c 32 x.tx) Try.underlying60 (by kernel_rfl) (by omega) (fun c _ hc => rdb_blk hc) h
  exact ⟨s, h1, h2, h3⟩
end Go.Proofs.Ythcapeihhldpcaa
