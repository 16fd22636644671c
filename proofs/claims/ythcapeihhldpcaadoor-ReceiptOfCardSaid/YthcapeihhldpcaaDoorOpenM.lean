/- OpenM: messages and replies that came in, opened. No condition. -/
import Derived.Test.YthcapeihhldpcaaDoorOpenP
import Derived.Test.YthcapeihhldpcaaDoorMsg
namespace Go.Proofs.YthcapeihhldpcaaDoor
set_option linter.unusedSimpArgs false
set_option linter.unusedVariables false
open Go.RowKit
set_option maxRecDepth 100000
set_option maxHeartbeats 2000000

theorem rdb_hint {H : Type} {enc : TypeId × Value → H} {w : World} {cs : List Value} (h : Rdb enc Tryd.prog w 26 cs) : ∃ x : Hint, cs = x.c := by
  obtain ⟨l, hl, rfl⟩ := rdb_u8s (n := 16) (by kernel_rfl) (by kernel_rfl) h
  refine ⟨⟨l.toArray, by simp [hl]⟩, ?_⟩
  rw [← Hint.maps]
  simp
theorem rdb_msg {H : Type} {enc : TypeId × Value → H} {w : World} {cs : List Value} (h : Rdb enc Tryd.prog w 41 cs) : ∃ x : Msg, cs = x.c ∧ SlAt w.heap.size w u8L 1 x.blob := by
  obtain ⟨hl, hf⟩ := rdb_struct (fs := Tryd.prog.fieldsOf 41) (by kernel_rfl) h
  obtain ⟨k, hk, _⟩ := rdb_int (cs := (cs.drop 0).take 1) Tryd.underlying39 (hf 0 _ rfl)
  obtain ⟨a, ha⟩ := rdb_u32 (cs := (cs.drop 1).take 1) (hf 1 _ rfl)
  obtain ⟨b, hb⟩ := rdb_u32 (cs := (cs.drop 2).take 1) (hf 2 _ rfl)
  obtain ⟨c, hc⟩ := rdb_u32 (cs := (cs.drop 3).take 1) (hf 3 _ rfl)
  obtain ⟨i, hi⟩ := rdb_hint (cs := (cs.drop 4).take 16) (hf 4 _ rfl)
  obtain ⟨p, hp, hat⟩ := rdb_bytes (cs := (cs.drop 20).take 1) (hf 5 _ rfl)
  have h3 : cs.drop 21 = [] := List.drop_eq_nil_of_le (by rw [hl]; exact Nat.le_of_eq (by kernel_rfl))
  have h1 := drop_split cs 0 1
  rw [drop_split cs (0 + 1) 1, drop_split cs (0 + 1 + 1) 1, drop_split cs (0 + 1 + 1 + 1) 1, drop_split cs (0 + 1 + 1 + 1 + 1) 16, drop_split cs (0 + 1 + 1 + 1 + 1 + 16) 1, hk, ha, hb, hc, hi, hp, h3, List.drop_zero] at h1
  exact ⟨⟨k, a, b, c, i, p⟩, h1, hat⟩
theorem rdb_rpl {H : Type} {enc : TypeId × Value → H} {w : World} {cs : List Value} (h : Rdb enc Tryd.prog w 43 cs) : ∃ x : Rpl, cs = x.c := by
  obtain ⟨hl, hf⟩ := rdb_struct (fs := Tryd.prog.fieldsOf 43) (by kernel_rfl) h
  obtain ⟨k, hk, _⟩ := rdb_int (cs := (cs.drop 0).take 1) Tryd.underlying39 (hf 0 _ rfl)
  obtain ⟨n, hn, _⟩ := rdb_int (cs := (cs.drop 1).take 1) Tryd.underlying31 (hf 1 _ rfl)
  obtain ⟨a, ha⟩ := rdb_u32 (cs := (cs.drop 2).take 1) (hf 2 _ rfl)
  obtain ⟨b, hb⟩ := rdb_u32 (cs := (cs.drop 3).take 1) (hf 3 _ rfl)
  obtain ⟨c, hc⟩ := rdb_u32 (cs := (cs.drop 4).take 1) (hf 4 _ rfl)
  obtain ⟨d, hd⟩ := rdb_u32 (cs := (cs.drop 5).take 1) (hf 5 _ rfl)
  obtain ⟨e, he⟩ := rdb_u32 (cs := (cs.drop 6).take 1) (hf 6 _ rfl)
  have h3 : cs.drop 7 = [] := List.drop_eq_nil_of_le (by rw [hl]; exact Nat.le_of_eq (by kernel_rfl))
  have h1 := drop_split cs 0 1
  rw [drop_split cs (0 + 1) 1, drop_split cs (0 + 1 + 1) 1, drop_split cs (0 + 1 + 1 + 1) 1, drop_split cs (0 + 1 + 1 + 1 + 1) 1, drop_split cs (0 + 1 + 1 + 1 + 1 + 1) 1, drop_split cs (0 + 1 + 1 + 1 + 1 + 1 + 1) 1, hk, hn, ha, hb, hc, hd, he, h3, List.drop_zero] at h1
  exact ⟨⟨k, n, a, b, c, d, e⟩, h1⟩
end Go.Proofs.YthcapeihhldpcaaDoor
