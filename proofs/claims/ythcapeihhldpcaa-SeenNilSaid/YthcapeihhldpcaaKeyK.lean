/- KeyK: maps whose keys are keys. No condition. -/
import Derived.Test.YthcapeihhldpcaaKeys
namespace Go.Proofs.Ythcapeihhldpcaa
set_option linter.unusedSimpArgs false
set_option linter.unusedVariables false
open Go.RowKit
set_option maxRecDepth 100000
set_option maxHeartbeats 2000000

theorem keyK : KEnc Try.prog 93 Key.v where
  law := key_law
  reads x := by
    have h1 : ∀ (x : UInt32) (d : Nat), Try.prog.keyLits (d + 1) 27 [u32 x] = some [.int .u32 x.toNat] := fun x d => by
      have hw : (Lit.int .u32 (x.toNat : Int)).wf = true := by
        have := x.toNat_lt
        simp [Lit.wf, IntKind.min, IntKind.max, IntKind.signed, IntKind.bits]
        omega
      simp [Program.keyLits, Try.underlying27, hw]
    have hf : (Try.prog.fieldsOf 93).toList = [((Try.prog.fieldsOf 93)[0]?).getD default, ((Try.prog.fieldsOf 93)[1]?).getD default] := by kernel_rfl
    have ht : Try.prog.underlying 93 = some (.struct (Try.prog.fieldsOf 93)) := by kernel_rfl
    have h2 : ∃ L, Try.prog.keyLits (Try.prog.types.size + 1) 93 [u32 x.ses, u32 x.seq] = some L := by
      obtain ⟨r, hr⟩ := mapM_has (f := fun f : Field => Try.prog.keyLits (Try.prog.types.size) f.type (([u32 x.ses, u32 x.seq].drop f.offset).take (Try.prog.cellsOf f.type))) (Try.prog.fieldsOf 93).toList fun f hm => by
        have hsz : Try.prog.types.size = (Try.prog.types.size - 1) + 1 := by kernel_rfl
        rw [hf] at hm
        rcases List.mem_cons.1 hm with rfl | hm
        · refine ⟨[.int .u32 x.ses.toNat], ?_⟩
          rw [hsz, ← h1 x.ses (Try.prog.types.size - 1)]
          rfl
        · rcases List.mem_cons.1 hm with rfl | hm
          · refine ⟨[.int .u32 x.seq.toNat], ?_⟩
            rw [hsz, ← h1 x.seq (Try.prog.types.size - 1)]
            rfl
          · cases hm
      refine ⟨r.flatten, ?_⟩
      unfold Program.keyLits
      rw [ht]
      simp only
      rw [if_pos ⟨by kernel_rfl, by kernel_rfl⟩, hr]
      rfl
    obtain ⟨L, hL⟩ := h2
    refine ⟨.string (keyBytes L), ?_⟩
    have hk : (Try.prog.keyType 93 && x.v.formed Try.prog 93) = true := by kernel_rfl
    unfold keyOf
    rw [ht]
    simp only
    rw [if_pos hk]
    show (Try.prog.keyLits (Try.prog.types.size + 1) 93 [u32 x.ses, u32 x.seq]).map _ = _
    rw [hL]
    rfl
  inj {x y} h := by
    have h1 : #[u32 x.ses, u32 x.seq] = #[u32 y.ses, u32 y.seq] := by injection h
    obtain ⟨a, b⟩ := x
    obtain ⟨c, d⟩ := y
    simp only [Array.mk.injEq, List.cons.injEq, and_true, Value.int.injEq, true_and] at h1
    have h2 : a = c := UInt32.toNat_inj.1 (by omega)
    have h3 : b = d := UInt32.toNat_inj.1 (by omega)
    rw [h2, h3]
end Go.Proofs.Ythcapeihhldpcaa
