/- OpenS: submissions that came in, opened. No condition. -/
import Derived.Test.YthcapeihhldpcaaOpenP
namespace Go.Proofs.Ythcapeihhldpcaa
set_option linter.unusedSimpArgs false
set_option linter.unusedVariables false
open Go.RowKit
set_option maxRecDepth 100000
set_option maxHeartbeats 2000000

theorem rdb_key {H : Type} {enc : TypeId × Value → H} {w : World} {cs : List Value} (h : Rdb enc Try.prog w 93 cs) : ∃ x : Key, cs = [u32 x.ses, u32 x.seq] := by
  obtain ⟨hl, hf⟩ := rdb_struct (fs := Try.prog.fieldsOf 93) (by kernel_rfl) h
  obtain ⟨a, ha⟩ := rdb_u32 (cs := (cs.drop 0).take 1) (hf 0 _ rfl)
  obtain ⟨b, hb⟩ := rdb_u32 (cs := (cs.drop 1).take 1) (hf 1 _ rfl)
  have h1 := drop_split cs 0 1
  have h2 := drop_split cs 1 1
  rw [ha, h2, hb, List.drop_zero] at h1
  have h3 : cs.drop 2 = [] := List.drop_eq_nil_of_le (by rw [hl]; exact Nat.le_of_eq (by kernel_rfl))
  rw [h3] at h1
  exact ⟨⟨a, b⟩, h1⟩
theorem rdb_sub {H : Type} {enc : TypeId × Value → H} {w : World} {cs : List Value} (h : Rdb enc Try.prog w 96 cs) : ∃ x : Sub, cs = x.c ∧ SlAt w.heap.size w u8L 1 x.tx := by
  obtain ⟨hl, hf⟩ := rdb_struct (fs := Try.prog.fieldsOf 96) (by kernel_rfl) h
  obtain ⟨k, hk⟩ := rdb_key (cs := (cs.drop 0).take 2) (hf 0 _ rfl)
  obtain ⟨i, hi⟩ := rdb_id (cs := (cs.drop 2).take 32) (hf 1 _ rfl)
  obtain ⟨a, ha⟩ := rdb_u32 (cs := (cs.drop 34).take 1) (hf 2 _ rfl)
  obtain ⟨l, hlv, _⟩ := rdb_i64 (cs := (cs.drop 35).take 1) (hf 3 _ rfl)
  obtain ⟨p, hp, hat⟩ := rdb_bytes (cs := (cs.drop 36).take 1) (hf 4 _ rfl)
  have h3 : cs.drop 37 = [] := List.drop_eq_nil_of_le (by rw [hl]; exact Nat.le_of_eq (by kernel_rfl))
  have h1 := drop_split cs 0 2
  rw [drop_split cs (0 + 2) 32, drop_split cs (0 + 2 + 32) 1, drop_split cs (0 + 2 + 32 + 1) 1, drop_split cs (0 + 2 + 32 + 1 + 1) 1, hk, hi, ha, hlv, hp, h3, List.drop_zero] at h1
  exact ⟨⟨k, i, a, l, p⟩, h1, hat⟩
end Go.Proofs.Ythcapeihhldpcaa
