/- BlkT: blocks as cells. -/
import Derived.Test.YthcapeihhldpcaaSlice
import Derived.Test.YthcapeihhldpcaaElId
namespace Go.Proofs.Ythcapeihhldpcaa
set_option linter.unusedSimpArgs false
set_option linter.unusedVariables false
open Go.RowKit
set_option maxRecDepth 100000
set_option maxHeartbeats 2000000

structure Blk where
  hash : Id
  parent : Id
  tx : Sl Id
abbrev Blk.c (x : Blk) : List Value := (u8 x.hash[0] :: u8 x.hash[1] :: u8 x.hash[2] :: u8 x.hash[3] :: u8 x.hash[4] :: u8 x.hash[5] :: u8 x.hash[6] :: u8 x.hash[7] :: u8 x.hash[8] :: u8 x.hash[9] :: u8 x.hash[10] :: u8 x.hash[11] :: u8 x.hash[12] :: u8 x.hash[13] :: u8 x.hash[14] :: u8 x.hash[15] :: u8 x.hash[16] :: u8 x.hash[17] :: u8 x.hash[18] :: u8 x.hash[19] :: u8 x.hash[20] :: u8 x.hash[21] :: u8 x.hash[22] :: u8 x.hash[23] :: u8 x.hash[24] :: u8 x.hash[25] :: u8 x.hash[26] :: u8 x.hash[27] :: u8 x.hash[28] :: u8 x.hash[29] :: u8 x.hash[30] :: u8 x.hash[31] :: u8 x.parent[0] :: u8 x.parent[1] :: u8 x.parent[2] :: u8 x.parent[3] :: u8 x.parent[4] :: u8 x.parent[5] :: u8 x.parent[6] :: u8 x.parent[7] :: u8 x.parent[8] :: u8 x.parent[9] :: u8 x.parent[10] :: u8 x.parent[11] :: u8 x.parent[12] :: u8 x.parent[13] :: u8 x.parent[14] :: u8 x.parent[15] :: u8 x.parent[16] :: u8 x.parent[17] :: u8 x.parent[18] :: u8 x.parent[19] :: u8 x.parent[20] :: u8 x.parent[21] :: u8 x.parent[22] :: u8 x.parent[23] :: u8 x.parent[24] :: u8 x.parent[25] :: u8 x.parent[26] :: u8 x.parent[27] :: u8 x.parent[28] :: u8 x.parent[29] :: u8 x.parent[30] :: u8 x.parent[31] :: x.tx.v :: [])
abbrev Blk.v (x : Blk) : Value := .agg (List.toArray (u8 x.hash[0] :: u8 x.hash[1] :: u8 x.hash[2] :: u8 x.hash[3] :: u8 x.hash[4] :: u8 x.hash[5] :: u8 x.hash[6] :: u8 x.hash[7] :: u8 x.hash[8] :: u8 x.hash[9] :: u8 x.hash[10] :: u8 x.hash[11] :: u8 x.hash[12] :: u8 x.hash[13] :: u8 x.hash[14] :: u8 x.hash[15] :: u8 x.hash[16] :: u8 x.hash[17] :: u8 x.hash[18] :: u8 x.hash[19] :: u8 x.hash[20] :: u8 x.hash[21] :: u8 x.hash[22] :: u8 x.hash[23] :: u8 x.hash[24] :: u8 x.hash[25] :: u8 x.hash[26] :: u8 x.hash[27] :: u8 x.hash[28] :: u8 x.hash[29] :: u8 x.hash[30] :: u8 x.hash[31] :: u8 x.parent[0] :: u8 x.parent[1] :: u8 x.parent[2] :: u8 x.parent[3] :: u8 x.parent[4] :: u8 x.parent[5] :: u8 x.parent[6] :: u8 x.parent[7] :: u8 x.parent[8] :: u8 x.parent[9] :: u8 x.parent[10] :: u8 x.parent[11] :: u8 x.parent[12] :: u8 x.parent[13] :: u8 x.parent[14] :: u8 x.parent[15] :: u8 x.parent[16] :: u8 x.parent[17] :: u8 x.parent[18] :: u8 x.parent[19] :: u8 x.parent[20] :: u8 x.parent[21] :: u8 x.parent[22] :: u8 x.parent[23] :: u8 x.parent[24] :: u8 x.parent[25] :: u8 x.parent[26] :: u8 x.parent[27] :: u8 x.parent[28] :: u8 x.parent[29] :: u8 x.parent[30] :: u8 x.parent[31] :: x.tx.v :: []))

end Go.Proofs.Ythcapeihhldpcaa
