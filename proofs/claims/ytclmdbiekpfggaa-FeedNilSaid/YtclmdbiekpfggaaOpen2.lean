/- Open (2): blocks, lists of ids, lists of blocks that come in. No condition. -/
import Derived.Test.YtclmdbiekpfggaaOpen
import Derived.Test.YtclmdbiekpfggaaTree3
namespace Go.Proofs.Ytclmdbiekpfggaa
open Go.RowKit
set_option maxRecDepth 100000
set_option maxHeartbeats 2000000

/-- an argument of a slice's type -/
theorem slice_arg {H : Type} {enc : TypeId × Value → H} {P : Program} {w : World} {r : Reach} {b0 : Nat} {t e : TypeId} {v : Value} {d : DataW H} {ps : List MemPlace} (ht : P.underlying t = some (.slice e)) (hval : Value.okWide P w r b0 t v) (h : DataW.Trod enc P w 0 (fun _ => true) true t v d ps) : Rdb enc P w t [v] := by
  have h1 := rdb_of h
  obtain ⟨a, n, c, rfl⟩ := Go.WideShapes.okWide_slice ht hval
  exact h1
theorem rdb_ids {H : Type} {enc : TypeId × Value → H} {w : World} {cs : List Value} (h : Rdb enc Try.prog w 89 cs) : ∃ s : Sl Id, cs = [s.v] ∧ SlAt w.heap.size w Id.c 32 s := by
  obtain ⟨s, h1, h2, _⟩ := rdb_slice (ec := Id.c) (sz := 32) (Q := fun _ => True) Try.underlying89 (by kernel_rfl) (by omega) (fun c _ hc => by
    obtain ⟨x, hx⟩ := rdb_id hc
    exact ⟨x, hx, trivial⟩) h
  exact ⟨s, h1, h2⟩
theorem rdb_blk {H : Type} {enc : TypeId × Value → H} {w : World} {cs : List Value} (h : Rdb enc Try.prog w 94 cs) : ∃ x : Blk, cs = x.c ∧ SlAt w.heap.size w Id.c 32 x.tx := by
  obtain ⟨hl, hf⟩ := rdb_struct (fs := Try.prog.fieldsOf 94) (by kernel_rfl) h
  obtain ⟨a, ha⟩ := rdb_id (cs := (cs.drop 0).take 32) (hf 0 _ rfl)
  obtain ⟨b, hb⟩ := rdb_id (cs := (cs.drop 32).take 32) (hf 1 _ rfl)
  obtain ⟨s, hs, hat⟩ := rdb_ids (cs := (cs.drop 64).take 1) (hf 2 _ rfl)
  have h3 : cs.drop 65 = [] := List.drop_eq_nil_of_le (by rw [hl]; exact Nat.le_of_eq (by kernel_rfl))
  have h1 := drop_split cs 0 32
  rw [drop_split cs (0 + 32) 32, drop_split cs (0 + 32 + 32) 1, ha, hb, hs, h3, List.drop_zero] at h1
  exact ⟨⟨a, b, s⟩, h1, hat⟩
theorem rdb_blks {H : Type} {enc : TypeId × Value → H} {w : World} {cs : List Value} (h : Rdb enc Try.prog w 78 cs) : ∃ s : Sl Blk, cs = [s.v] ∧ BlksAt w.heap.size w s := by
  obtain ⟨s, h1, h2, h3⟩ := rdb_slice (ec := Blk.c) (sz := 65) (Q := fun x => SlAt w.heap.size w Id.c 32 x.tx) Try.underlying78 (by kernel_rfl) (by omega) (fun c _ hc => rdb_blk hc) h
  exact ⟨s, h1, h2, h3⟩
end Go.Proofs.Ytclmdbiekpfggaa
