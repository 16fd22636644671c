/- SeenI: an index of package seen as resources; notes and strikes in its indexes. -/
import Derived.Test.YthcapeihhldpcaaSeen0
import Derived.Test.YthcapeihhldpcaaHintIP3
import Derived.Test.YthcapeihhldpcaaHintHI3
import Derived.Test.YthcapeihhldpcaaOut
import Derived.Test.YthcapeihhldpcaaBlkR
namespace Go.Proofs.Ythcapeihhldpcaa
set_option linter.unusedSimpArgs false
set_option linter.unusedVariables false
open Go.RowKit
set_option maxRecDepth 100000
set_option maxHeartbeats 2000000

theorem istrIP {w0 : World} {b m : Nat} {l : List (Id × Sl Plc)} {n : Int} (h : (star (iRsIP b m l n)).ok w0) (k : Id) (v : Plc) (hn : (idx l k).l.length ≤ 100000) (hn2 : -1000000 ≤ n ∧ n ≤ 1000000) : Calls Try.prog 145 #[ptr b, Id.v k, Plc.v v] w0 fun e w' =>
    ∃ q, e = .returned (.bool q) ∧ ∃ l' n', n - 1 ≤ n' ∧ n' ≤ n ∧ (∀ x, (idx l' x).l = if x = k then (idx l k).l.erase v else (idx l x).l) ∧ Mut (star (iRsIP b m l n)) (star (iRsIP b m l' n')) w0 w' := by
  refine (istrikeIP h k v hn hn2).mono fun e w' hh => ?_
  rcases hh with ⟨hv, rfl, hc⟩ | ⟨hv, rfl, l', hl', hm⟩
  · refine ⟨_, rfl, l, n, by omega, by omega, fun x => ?_, Mut.of0 h hc⟩
    by_cases hx : x = k
    · rw [if_pos hx, hx]; exact (List.erase_of_not_mem hv).symm
    · rw [if_neg hx]
  · exact ⟨_, rfl, l', n - 1, by omega, by omega, hl', hm⟩
theorem inotIP {w0 : World} {b m : Nat} {l : List (Id × Sl Plc)} {n : Int} (h : (star (iRsIP b m l n)).ok w0) (k : Id) (v : Plc) (hn : (idx l k).l.length ≤ 100000) (hn2 : -1000000 ≤ n ∧ n ≤ 1000000) : Calls Try.prog 91 #[ptr b, Id.v k, Plc.v v] w0 fun e w' =>
    ∃ q, e = .returned (.bool q) ∧ ∃ l' n', n ≤ n' ∧ n' ≤ n + 1 ∧ (∀ x, (idx l' x).l = if x = k ∧ v ∉ (idx l k).l then (idx l k).l ++ [v] else (idx l x).l) ∧ Mut (star (iRsIP b m l n)) (star (iRsIP b m l' n')) w0 w' := by
  refine (inoteIP h k v hn hn2).mono fun e w' hh => ?_
  rcases hh with ⟨hv, rfl, hc⟩ | ⟨hv, rfl, s', hs', hm⟩
  · exact ⟨_, rfl, l, n, by omega, by omega, fun x => by rw [if_neg fun hh => hh.2 hv], Mut.of0 h hc⟩
  · refine ⟨_, rfl, mput l k s', n + 1, by omega, by omega, fun x => ?_, hm⟩
    rw [idx_mput]
    by_cases hx : x = k
    · rw [if_pos hx, if_pos ⟨hx, hv⟩]; exact hs'
    · rw [if_neg hx, if_neg fun hh => hx hh.1]
theorem istrHI {w0 : World} {b m : Nat} {l : List (Hint × Sl Id)} {n : Int} (h : (star (iRsHI b m l n)).ok w0) (k : Hint) (v : Id) (hn : (idx l k).l.length ≤ 100000) (hn2 : -1000000 ≤ n ∧ n ≤ 1000000) : Calls Try.prog 146 #[ptr b, Hint.v k, Id.v v] w0 fun e w' =>
    ∃ q, e = .returned (.bool q) ∧ ∃ l' n', n - 1 ≤ n' ∧ n' ≤ n ∧ (∀ x, (idx l' x).l = if x = k then (idx l k).l.erase v else (idx l x).l) ∧ Mut (star (iRsHI b m l n)) (star (iRsHI b m l' n')) w0 w' := by
  refine (istrikeHI h k v hn hn2).mono fun e w' hh => ?_
  rcases hh with ⟨hv, rfl, hc⟩ | ⟨hv, rfl, l', hl', hm⟩
  · refine ⟨_, rfl, l, n, by omega, by omega, fun x => ?_, Mut.of0 h hc⟩
    by_cases hx : x = k
    · rw [if_pos hx, hx]; exact (List.erase_of_not_mem hv).symm
    · rw [if_neg hx]
  · exact ⟨_, rfl, l', n - 1, by omega, by omega, hl', hm⟩
theorem inotHI {w0 : World} {b m : Nat} {l : List (Hint × Sl Id)} {n : Int} (h : (star (iRsHI b m l n)).ok w0) (k : Hint) (v : Id) (hn : (idx l k).l.length ≤ 100000) (hn2 : -1000000 ≤ n ∧ n ≤ 1000000) : Calls Try.prog 92 #[ptr b, Hint.v k, Id.v v] w0 fun e w' =>
    ∃ q, e = .returned (.bool q) ∧ ∃ l' n', n ≤ n' ∧ n' ≤ n + 1 ∧ (∀ x, (idx l' x).l = if x = k ∧ v ∉ (idx l k).l then (idx l k).l ++ [v] else (idx l x).l) ∧ Mut (star (iRsHI b m l n)) (star (iRsHI b m l' n')) w0 w' := by
  refine (inoteHI h k v hn hn2).mono fun e w' hh => ?_
  rcases hh with ⟨hv, rfl, hc⟩ | ⟨hv, rfl, s', hs', hm⟩
  · exact ⟨_, rfl, l, n, by omega, by omega, fun x => by rw [if_neg fun hh => hh.2 hv], Mut.of0 h hc⟩
  · refine ⟨_, rfl, mput l k s', n + 1, by omega, by omega, fun x => ?_, hm⟩
    rw [idx_mput]
    by_cases hx : x = k
    · rw [if_pos hx, if_pos ⟨hx, hv⟩]; exact hs'
    · rw [if_neg hx, if_neg fun hh => hx hh.1]
abbrev snRs (b : Nat) (X : Snx) : List Res := [cel b 64 X.c.toArray, cutR 58 65 Blk.c X.bs, star (iRsIP X.bw X.mw X.lw X.nw), star (iRsHI X.bh X.mh X.lh X.nh)]
theorem snAt {S : Nat → Prop} {w0 w : World} {rs : List Res} {b : Nat} {X : Snx} (h : Hp S w0 w rs) (hs : (snRs b X).Sublist rs) : SnAt w b X := by
  have h2 := h.sub hs
  exact ⟨h2.cel_get (j := 0) rfl, idxAt (h2.get (j := 2) rfl), idxAt (h2.get (j := 3) rfl), h2.cutAt (j := 1) rfl⟩
end Go.Proofs.Ythcapeihhldpcaa
