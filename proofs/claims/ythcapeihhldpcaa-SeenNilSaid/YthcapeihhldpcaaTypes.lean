/- Types: the program's plain types as values. No condition. -/
import Derived.Test.YthcapeihhldpcaaTab
namespace Go.Proofs.Ythcapeihhldpcaa
set_option linter.unusedSimpArgs false
set_option linter.unusedVariables false
open Go.RowKit
set_option maxRecDepth 100000
set_option maxHeartbeats 2000000

abbrev ptr (b : Nat) : Value := .pointer (some ⟨b, 0, none⟩)
abbrev errno (n : Nat) : Value := .int .i64 n
abbrev i64 (n : Int) : Value := .int .i64 n
abbrev Id := Vector UInt8 32
abbrev Hint := Vector UInt8 16
abbrev Id.c (x : Id) : List Value := (u8 x[0] :: u8 x[1] :: u8 x[2] :: u8 x[3] :: u8 x[4] :: u8 x[5] :: u8 x[6] :: u8 x[7] :: u8 x[8] :: u8 x[9] :: u8 x[10] :: u8 x[11] :: u8 x[12] :: u8 x[13] :: u8 x[14] :: u8 x[15] :: u8 x[16] :: u8 x[17] :: u8 x[18] :: u8 x[19] :: u8 x[20] :: u8 x[21] :: u8 x[22] :: u8 x[23] :: u8 x[24] :: u8 x[25] :: u8 x[26] :: u8 x[27] :: u8 x[28] :: u8 x[29] :: u8 x[30] :: u8 x[31] :: [])
abbrev Hint.c (x : Hint) : List Value := (u8 x[0] :: u8 x[1] :: u8 x[2] :: u8 x[3] :: u8 x[4] :: u8 x[5] :: u8 x[6] :: u8 x[7] :: u8 x[8] :: u8 x[9] :: u8 x[10] :: u8 x[11] :: u8 x[12] :: u8 x[13] :: u8 x[14] :: u8 x[15] :: [])
abbrev Id.v (x : Id) : Value := .agg (List.toArray (u8 x[0] :: u8 x[1] :: u8 x[2] :: u8 x[3] :: u8 x[4] :: u8 x[5] :: u8 x[6] :: u8 x[7] :: u8 x[8] :: u8 x[9] :: u8 x[10] :: u8 x[11] :: u8 x[12] :: u8 x[13] :: u8 x[14] :: u8 x[15] :: u8 x[16] :: u8 x[17] :: u8 x[18] :: u8 x[19] :: u8 x[20] :: u8 x[21] :: u8 x[22] :: u8 x[23] :: u8 x[24] :: u8 x[25] :: u8 x[26] :: u8 x[27] :: u8 x[28] :: u8 x[29] :: u8 x[30] :: u8 x[31] :: []))
abbrev Hint.v (x : Hint) : Value := .agg (List.toArray (u8 x[0] :: u8 x[1] :: u8 x[2] :: u8 x[3] :: u8 x[4] :: u8 x[5] :: u8 x[6] :: u8 x[7] :: u8 x[8] :: u8 x[9] :: u8 x[10] :: u8 x[11] :: u8 x[12] :: u8 x[13] :: u8 x[14] :: u8 x[15] :: []))
abbrev Bytes := Sl UInt8
structure Key where
  ses : UInt32
  seq : UInt32
  deriving DecidableEq
abbrev Key.c (k : Key) : List Value := [u32 k.ses, u32 k.seq]
abbrev Key.v (k : Key) : Value := .agg #[u32 k.ses, u32 k.seq]
structure Tier where
  fee : UInt32
  tx : Bytes
abbrev Tier.c (t : Tier) : List Value := [u32 t.fee, t.tx.v]
abbrev Tier.v (t : Tier) : Value := .agg #[u32 t.fee, t.tx.v]
abbrev Payload := Sl Tier
abbrev Payload.pv (p : Payload) : Value := .agg #[p.v]
/-- a payload's memory -/
structure PayAt (B : Nat) (w : World) (p : Payload) : Prop where
  row : SlAt B w Tier.c 2 p
  tx : ∀ t ∈ p.l, SlAt B w u8L 1 t.tx
theorem PayAt.keep {S : Nat → Prop} {B : Nat} {w w' : World} {p : Payload} (h : PayAt B w p) (hc : Chg S w w') (hB : ∀ b, S b → B ≤ b) : PayAt B w' p := ⟨h.row.keep hc hB, fun t ht => (h.tx t ht).keep hc hB⟩
structure Job where
  key : Key
  breach : Id
  height : UInt32
  mined : UInt32
  live : Int
  pay : Payload
abbrev Job.c (j : Job) : List Value := (u32 j.key.ses :: u32 j.key.seq :: u8 j.breach[0] :: u8 j.breach[1] :: u8 j.breach[2] :: u8 j.breach[3] :: u8 j.breach[4] :: u8 j.breach[5] :: u8 j.breach[6] :: u8 j.breach[7] :: u8 j.breach[8] :: u8 j.breach[9] :: u8 j.breach[10] :: u8 j.breach[11] :: u8 j.breach[12] :: u8 j.breach[13] :: u8 j.breach[14] :: u8 j.breach[15] :: u8 j.breach[16] :: u8 j.breach[17] :: u8 j.breach[18] :: u8 j.breach[19] :: u8 j.breach[20] :: u8 j.breach[21] :: u8 j.breach[22] :: u8 j.breach[23] :: u8 j.breach[24] :: u8 j.breach[25] :: u8 j.breach[26] :: u8 j.breach[27] :: u8 j.breach[28] :: u8 j.breach[29] :: u8 j.breach[30] :: u8 j.breach[31] :: u32 j.height :: u32 j.mined :: i64 j.live :: j.pay.v :: [])
abbrev Job.v (j : Job) : Value := .agg (List.toArray (u32 j.key.ses :: u32 j.key.seq :: u8 j.breach[0] :: u8 j.breach[1] :: u8 j.breach[2] :: u8 j.breach[3] :: u8 j.breach[4] :: u8 j.breach[5] :: u8 j.breach[6] :: u8 j.breach[7] :: u8 j.breach[8] :: u8 j.breach[9] :: u8 j.breach[10] :: u8 j.breach[11] :: u8 j.breach[12] :: u8 j.breach[13] :: u8 j.breach[14] :: u8 j.breach[15] :: u8 j.breach[16] :: u8 j.breach[17] :: u8 j.breach[18] :: u8 j.breach[19] :: u8 j.breach[20] :: u8 j.breach[21] :: u8 j.breach[22] :: u8 j.breach[23] :: u8 j.breach[24] :: u8 j.breach[25] :: u8 j.breach[26] :: u8 j.breach[27] :: u8 j.breach[28] :: u8 j.breach[29] :: u8 j.breach[30] :: u8 j.breach[31] :: u32 j.height :: u32 j.mined :: i64 j.live :: j.pay.v :: []))
structure Sub where
  key : Key
  breach : Id
  height : UInt32
  tier : Int
  tx : Bytes
abbrev Sub.c (j : Sub) : List Value := (u32 j.key.ses :: u32 j.key.seq :: u8 j.breach[0] :: u8 j.breach[1] :: u8 j.breach[2] :: u8 j.breach[3] :: u8 j.breach[4] :: u8 j.breach[5] :: u8 j.breach[6] :: u8 j.breach[7] :: u8 j.breach[8] :: u8 j.breach[9] :: u8 j.breach[10] :: u8 j.breach[11] :: u8 j.breach[12] :: u8 j.breach[13] :: u8 j.breach[14] :: u8 j.breach[15] :: u8 j.breach[16] :: u8 j.breach[17] :: u8 j.breach[18] :: u8 j.breach[19] :: u8 j.breach[20] :: u8 j.breach[21] :: u8 j.breach[22] :: u8 j.breach[23] :: u8 j.breach[24] :: u8 j.breach[25] :: u8 j.breach[26] :: u8 j.breach[27] :: u8 j.breach[28] :: u8 j.breach[29] :: u8 j.breach[30] :: u8 j.breach[31] :: u32 j.height :: i64 j.tier :: j.tx.v :: [])
abbrev Sub.v (j : Sub) : Value := .agg (List.toArray (u32 j.key.ses :: u32 j.key.seq :: u8 j.breach[0] :: u8 j.breach[1] :: u8 j.breach[2] :: u8 j.breach[3] :: u8 j.breach[4] :: u8 j.breach[5] :: u8 j.breach[6] :: u8 j.breach[7] :: u8 j.breach[8] :: u8 j.breach[9] :: u8 j.breach[10] :: u8 j.breach[11] :: u8 j.breach[12] :: u8 j.breach[13] :: u8 j.breach[14] :: u8 j.breach[15] :: u8 j.breach[16] :: u8 j.breach[17] :: u8 j.breach[18] :: u8 j.breach[19] :: u8 j.breach[20] :: u8 j.breach[21] :: u8 j.breach[22] :: u8 j.breach[23] :: u8 j.breach[24] :: u8 j.breach[25] :: u8 j.breach[26] :: u8 j.breach[27] :: u8 j.breach[28] :: u8 j.breach[29] :: u8 j.breach[30] :: u8 j.breach[31] :: u32 j.height :: i64 j.tier :: j.tx.v :: []))
def Id.z : Id := #v[0, 0, 0, 0, 0, 0, 0, 0, 0, 0, 0, 0, 0, 0, 0, 0, 0, 0, 0, 0, 0, 0, 0, 0, 0, 0, 0, 0, 0, 0, 0, 0]
def Sub.z : Sub := ⟨⟨0, 0⟩, Id.z, 0, 0, Sl.nil⟩
theorem el_u8 : ElT Try.prog 94 5 1 1 := elt_of (z := .int .u8 0) Try.underlying94 (by kernel_rfl) rfl (by omega)
end Go.Proofs.Ythcapeihhldpcaa
