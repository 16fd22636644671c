/- MSeenChain32: Seen8, Seen9, DocJ. -/
import Derived.Test.YtdncnepedkkamaaMSeenChain30
import Derived.Test.YtdncnepedkkamaaMSeenChain25
import Derived.Test.YtdncnepedkkamaaMSeenChain31
import Derived.Test.YtdncnepedkkamaaMSeenChain29
/- Seen8: an index of package seen: Push, Pop, Shift, Clone, whatever they find. Of indices that hold what they should. -/
namespace Go.Proofs.Ytdncnepedkkamaa
set_option linter.unusedSimpArgs false
set_option linter.unusedVariables false
open Go.RowKit
set_option maxRecDepth 100000
set_option maxHeartbeats 2000000
theorem Mut.outRow {w w' : World} {r : Res} {L L' : List Res} (m : Mut (star L) (star (r :: L')) w w') : Mut (star L) (star [star L', r]) w w' := by
  have h : Hp (star L).dom w w' [star (r :: L')] := ⟨m.chg, fun x hx => by rw [List.mem_singleton] at hx; subst hx; exact m.ok, List.pairwise_singleton .., fun x hx b hb => by rw [List.mem_singleton] at hx; subst hx; exact m.dom b hb⟩
  exact h.outRow.shut (.refl _)
theorem Mut.out0 {w w' : World} {r r' : Res} (m : Mut r r' w w') : Mut r (star [r']) w w' := by
  have h : Hp r.dom w w' [r'] := ⟨m.chg, fun x hx => by rw [List.mem_singleton] at hx; subst hx; exact m.ok, List.pairwise_singleton .., fun x hx b hb => by rw [List.mem_singleton] at hx; subst hx; exact m.dom b hb⟩
  exact ⟨m.chg, star_ok.2 ⟨h.ok, h.sep⟩, fun b hb => by
    obtain ⟨x, hx, hxb⟩ := star_dom.1 hb
    exact h.own x hx b hxb⟩
/-- copies of transactions -/
def txR (s : Sl Id) : Res := rowR 62 32 Id.c s
theorem SnI.lw_len {X : Snx} {L : List (List Id)} {K : Nat} (h : SnI X L K) (x : Id) : (idx X.lw x).l.length ≤ L.length := by rw [h.w]; exact plcs_len
theorem flat_le {L : List (List Id)} (h : ∀ t ∈ L, t.length ≤ 32) : L.flatten.length ≤ 32 * L.length := by
  induction L with
  | nil => simp
  | cons t L ih =>
    have h1 := h t (by simp)
    have h2 := ih fun u hu => h u (by simp [hu])
    simp only [List.flatten_cons, List.length_append, List.length_cons]
    omega
theorem SnI.lh_len {X : Snx} {L : List (List Id)} {K : Nat} (h : SnI X L K) (k : Hint) : (idx X.lh k).l.length ≤ 32 * L.length := by
  refine Nat.le_trans (List.Nodup.length_le_of_subset (h.hn k) (l₂ := L.flatten) fun y hy => ?_) (flat_le fun t ht => (h.nd t ht).2)
  obtain ⟨_, t, ht, hyt⟩ := (h.h k y).1 hy
  exact List.mem_flatten.2 ⟨t, ht, hyt⟩
theorem SnI.more {X : Snx} {L : List (List Id)} {K K' : Nat} (h : SnI X L K) (hK : K ≤ K') : SnI X L K' :=
  ⟨h.bs, h.top, h.nd, h.w, h.hn, h.h, by have := h.nw; omega, by have := h.nh; omega⟩
theorem SnI.len {X : Snx} {L : List (List Id)} {K : Nat} (h : SnI X L K) : X.bs.l.length = L.length := by rw [← h.bs, List.length_map]
theorem right_iff {b : Blk} (h : rightB b = true) : b.tx.l.length ≤ 32 ∧ b.tx.l.Nodup := by
  simp only [rightB, Bool.and_eq_true, decide_eq_true_eq] at h
  exact ⟨h.1.1, h.2⟩
/-- what a Push answers, and what comes of it -/
def pushE (low : UInt32) (n : Nat) (ht : UInt32) (R : Bool) : Int := if R = false then 4 else if n = 0 then 0 else if (ht.toNat : Int) = low.toNat + (n : Nat) then 0 else 1
def pushL {α : Type} (low : UInt32) (L : List α) (ht : UInt32) (t : α) (R : Bool) : List α := if pushE low L.length ht R = 0 then L ++ [t] else L
def pushW (low : UInt32) (n : Nat) (ht : UInt32) (R : Bool) : UInt32 := if R = true ∧ n = 0 then ht else low
section
variable {w0 : World} {b : Nat} {X : Snx} {L : List (List Id)} {K : Nat}
theorem spushI_any (h : (star (snRs b X)).ok w0) (hI : SnI X L K) (hK : K ≤ 800000) (hL : L.length ≤ 1000) {ht : UInt32} {B : Blk} {C : Nat} (hB : SlOut (star (snRs b X)).dom C w0 Id.c 32 B.tx) :
    Calls Try.prog 30 #[ptr b, u32 ht, B.v] w0 fun e w' => e = .returned (i64 (pushE X.low L.length ht (rightB B))) ∧ ∃ X', ∃ T' : List (Sl Id), SnI X' (pushL X.low L ht B.tx.l (rightB B)) (K + 32) ∧ X'.low = pushW X.low L.length ht (rightB B) ∧ (∀ c ∈ X'.bs.l, c ∈ X.bs.l ∨ c.tx ∈ T') ∧ Mut (star (snRs b X)) (star (star (snRs b X') :: T'.map txR)) w0 w' := by
  have hat := snAt (Hp.open h) (.refl _)
  have hlen := hI.len
  cases hR : rightB B with
  | false =>
    refine Calls.mono (spush_bad hat ht hB.at_ hR) ?_
    rintro e w ⟨rfl, hc⟩
    exact ⟨rfl, X, [], hI.more (by omega), by simp [pushW], fun c hc => .inl hc, (Mut.of0 h hc).out0⟩
  | true =>
    obtain ⟨hr1, hr2⟩ := right_iff hR
    by_cases hcs : (L = [] ∧ pushW X.low L.length ht true = ht) ∨ (L ≠ [] ∧ pushW X.low L.length ht true = X.low ∧ (ht.toNat : Int) = X.low.toNat + (L.length : Nat))
    · have hE : pushE X.low L.length ht true = 0 := by
        unfold pushE
        rcases hcs with ⟨h1, _⟩ | ⟨_, _, h2⟩
        · subst h1; rfl
        · rw [if_neg (by simp), if_pos h2]
          simp
      rw [hE, show pushL X.low L ht B.tx.l true = L ++ [B.tx.l] from if_pos hE]
      have hbs : X.bs.l = [] ↔ L = [] := by rw [← List.length_eq_zero_iff, hlen, List.length_eq_zero_iff]
      have hn1 := hI.nw
      have hn2 := hI.nh
      refine Calls.mono (spush_any h (ht := ht) (low' := pushW X.low L.length ht true) ?_ (by omega) hR hB hr2 hr1 (fun x => by have := hI.lw_len x; omega) (fun k => by have := hI.lh_len k; omega) (by omega) (by omega) fun x p hp => ?_) ?_
      · rcases hcs with ⟨h1, h2⟩ | ⟨h1, h2, h3⟩
        · exact .inl ⟨hbs.2 h1, h2⟩
        · exact .inr ⟨fun h0 => h1 (hbs.1 h0), h2, by rw [hlen]; exact h3⟩
      · rw [hI.w] at hp
        obtain ⟨i, h1, h2⟩ := plcs_h hp
        rcases hcs with ⟨h3, _⟩ | ⟨_, _, h3⟩
        · subst h3; simp at h1
        · have h4 := ht.toNat_lt
          rw [h2]
          intro h5
          have h6 := congrArg UInt32.toNat h5
          rw [UInt32.toNat_ofNat_of_lt' (by show _ < 4294967296; omega)] at h6
          omega
      · rintro e w ⟨rfl, lw, nw, lh, nh, s, s', hs, hs', hPI, hmt⟩
        refine ⟨rfl, _, [s], hI.push (B := { B with tx := s }) hcs hr2 hr1 hPI hs' hs, rfl, fun c hc => ?_, hmt.outRow⟩
        have hc : c ∈ s'.l := hc
        rw [hs'] at hc
        rcases List.mem_append.1 hc with hc | hc
        · exact .inl hc
        · rw [List.mem_singleton] at hc
          subst hc
          exact .inr (by simp)
    · have hne : L ≠ [] := fun h0 => hcs (.inl ⟨h0, by subst h0; simp [pushW]⟩)
      have hl0 : L.length ≠ 0 := fun h0 => hne (List.eq_nil_of_length_eq_zero h0)
      have hW : pushW X.low L.length ht true = X.low := if_neg fun hh => hl0 hh.2
      have hht : ¬ (ht.toNat : Int) = X.low.toNat + (L.length : Nat) := fun h0 => hcs (.inr ⟨hne, hW, h0⟩)
      have hE : pushE X.low L.length ht true = 1 := by
        unfold pushE
        rw [if_neg (by simp), if_neg hl0, if_neg hht]
      rw [hE, show pushL X.low L ht B.tx.l true = L from if_neg (by rw [hE]; omega), hW]
      refine Calls.mono (spush_far hat hB.at_ hR (fun h0 => hl0 (by rw [← hlen, h0]; rfl)) (by omega) (by rw [hlen]; exact hht)) ?_
      rintro e w ⟨rfl, hc⟩
      exact ⟨rfl, X, [], hI.more (by omega), rfl, fun c hc => .inl hc, (Mut.of0 h hc).out0⟩
theorem spopI_any (h : (star (snRs b X)).ok w0) (hI : SnI X L K) (hK : K ≤ 800000) (hL : L.length ≤ 1000) {C : Nat} (hB : ∀ c ∈ X.bs.l, SlOut (star (snRs b X)).dom C w0 Id.c 32 c.tx) :
    Calls Try.prog 32 #[ptr b] w0 fun e w' => e = .returned (.bool (decide (L ≠ []))) ∧ ∃ X', SnI X' L.dropLast (K + 32) ∧ X'.low = X.low ∧ (∀ c ∈ X'.bs.l, c ∈ X.bs.l) ∧ Mut (star (snRs b X)) (star (snRs b X')) w0 w' := by
  have hat := snAt (Hp.open h) (.refl _)
  have hbs := hI.bs
  rcases List.eq_nil_or_concat X.bs.l with h0 | ⟨Bs, B, h0⟩
  · rw [h0] at hbs
    have hL0 : L = [] := hbs.symm
    subst hL0
    refine Calls.mono (spop_none hat h0) ?_
    rintro e w ⟨rfl, hc⟩
    exact ⟨rfl, X, hI.more (by omega), rfl, fun c hc => hc, Mut.of0 h hc⟩
  · rw [List.concat_eq_append] at h0
    have hL0 : L = Bs.map (fun B => B.tx.l) ++ [B.tx.l] := by rw [← hbs, h0, List.map_append]; rfl
    obtain ⟨L0, hL1⟩ : ∃ L0, Bs.map (fun B : Blk => B.tx.l) = L0 := ⟨_, rfl⟩
    have hBl : Bs.length = L0.length := by rw [← hL1, List.length_map]
    rw [hL1] at hL0
    subst hL0
    have htop := hI.top
    rw [List.length_append, List.length_singleton] at htop hL
    have hn1 := hI.nw
    have hn2 := hI.nh
    obtain ⟨hd, hl⟩ := hI.nd B.tx.l (by simp)
    have hht : (X.low.toNat : Int) + (L0.length : Nat) = (UInt32.ofNat (X.low.toNat + L0.length)).toNat := by
      rw [UInt32.toNat_ofNat_of_lt' (by show _ < 4294967296; omega)]; omega
    refine Calls.mono (spop_any h h0 (ht := UInt32.ofNat (X.low.toNat + L0.length)) (by rw [hBl]; exact hht) (hB B (by rw [h0]; simp)) hd (by omega) (fun x => by have := hI.lw_len x; rw [List.length_append, List.length_singleton] at this; omega) (fun k => by have := hI.lh_len k; rw [List.length_append, List.length_singleton] at this; omega) (by omega) (by omega) hI.hn fun k y hy => ((hI.h k y).1 hy).1) ?_
    rintro e w ⟨rfl, lw, nw, lh, nh, hS, hmt⟩
    refine ⟨by simp, { X with bs := ⟨X.bs.A, Bs.length, Bs⟩, lw := lw, nw := nw, lh := lh, nh := nh }, by rw [List.dropLast_concat]; exact hI.pop hht hS (s' := ⟨X.bs.A, Bs.length, Bs⟩) hL1, rfl, fun c hc => ?_, hmt⟩
    have hc : c ∈ Bs := hc
    rw [h0]
    exact List.mem_append_left _ hc
theorem sshiftI_any (h : (star (snRs b X)).ok w0) (hI : SnI X L K) (hK : K ≤ 800000) (hL : L.length ≤ 1000) {C : Nat} (hB : ∀ c ∈ X.bs.l, SlOut (star (snRs b X)).dom C w0 Id.c 32 c.tx) :
    Calls Try.prog 34 #[ptr b] w0 fun e w' => e = .returned (.bool (decide (L ≠ []))) ∧ ∃ X', SnI X' L.tail (K + 32) ∧ X'.low = (if L = [] then X.low else X.low + 1) ∧ (∀ c ∈ X'.bs.l, c ∈ X.bs.l) ∧ Mut (star (snRs b X)) (star (snRs b X')) w0 w' := by
  have hat := snAt (Hp.open h) (.refl _)
  have hbs := hI.bs
  rcases h0 : X.bs.l with _ | ⟨B, Bs⟩
  · rw [h0] at hbs
    have hL0 : L = [] := hbs.symm
    subst hL0
    refine Calls.mono (sshift_none hat h0) ?_
    rintro e w ⟨rfl, hc⟩
    exact ⟨rfl, X, hI.more (by omega), rfl, fun c hc => by rw [h0] at hc; exact hc, Mut.of0 h hc⟩
  · have hL0 : L = B.tx.l :: Bs.map (fun B => B.tx.l) := by rw [← hbs, h0]; rfl
    obtain ⟨L0, hL1⟩ : ∃ L0, Bs.map (fun B : Blk => B.tx.l) = L0 := ⟨_, rfl⟩
    have hBl : Bs.length = L0.length := by rw [← hL1, List.length_map]
    rw [hL1] at hL0
    subst hL0
    rw [List.length_cons] at hL
    have hn1 := hI.nw
    have hn2 := hI.nh
    obtain ⟨hd, hl⟩ := hI.nd B.tx.l (by simp)
    refine Calls.mono (sshift_any h h0 (by omega) (hB B (by rw [h0]; simp)) hd (by omega) (fun x => by have := hI.lw_len x; rw [List.length_cons] at this; omega) (fun k => by have := hI.lh_len k; rw [List.length_cons] at this; omega) (by omega) (by omega) hI.hn fun k y hy => ((hI.h k y).1 hy).1) ?_
    rintro e w ⟨rfl, lw, nw, lh, nh, s', hs', hS, hmt⟩
    refine ⟨by simp, { X with low := X.low + 1, bs := s', lw := lw, nw := nw, lh := lh, nh := nh }, hI.shift hS (s' := s') (by rw [hs']; exact hL1), by simp, fun c hc => ?_, hmt⟩
    have hc : c ∈ s'.l := hc
    rw [hs'] at hc
    exact List.mem_cons_of_mem _ hc
end
end Go.Proofs.Ytdncnepedkkamaa
/- Seen9: an index of package seen: Has, Times, Span, Hinted as the document says. Of indices that hold what they should. -/
namespace Go.Proofs.Ytdncnepedkkamaa
set_option linter.unusedSimpArgs false
set_option linter.unusedVariables false
open Go.RowKit
set_option maxRecDepth 100000
set_option maxHeartbeats 2000000
section
variable {w0 : World} {b : Nat} {X : Snx} {L : List (List Id)} {K : Nat}
theorem shintedI_any (h : SnAt w0 b X) (hI : SnI X L K) (hL : L.length ≤ 1000) (k : Hint) : Calls Try.prog 51 #[ptr b, k.v] w0 fun e w' => ∃ r : Sl Id, r.l = docH L k ∧ e = .returned r.v ∧ Made (rowR 62 32 Id.c r) w0 w' := by
  by_cases h0 : (idx X.lh k).l = []
  · refine Calls.mono (shinted_none h k h0) ?_
    rintro e w ⟨r, hr, rfl, hm⟩
    exact ⟨r, hinted_doc hI k (by rw [hr, h0]) (by rw [hr]; exact .nil), rfl, hm⟩
  · refine Calls.mono (shinted_any h k h0 (fun y hy => ?_) (fun x => by have := hI.lw_len x; omega) (by have := hI.lh_len k; omega)) ?_
    · obtain ⟨_, t, ht, hyt⟩ := (hI.h k y).1 hy
      rw [hI.w]
      exact fun e => plcs_nil.1 e t ht hyt
    · rintro e w ⟨r, hp, ho, rfl, hm⟩
      exact ⟨r, hinted_doc hI k hp ho, rfl, hm⟩
/-- what the document's Has answers -/
def hasV (low : UInt32) (l : List Blk) (x : Id) : Value := match rFirst l x with | none => .tuple #[.int .u32 0, .bool false] | some i => .tuple #[.int .u32 ((low.toNat : Int) + (i : Nat)), .bool true]
theorem hasV_tup (low : UInt32) (l : List Blk) (x : Id) : ∃ m q, hasV low l x = .tuple #[.int .u32 m, .bool q] := by
  unfold hasV
  cases rFirst l x with
  | none => exact ⟨_, _, rfl⟩
  | some i => exact ⟨_, _, rfl⟩
theorem shasI_any {l : List Blk} {low : UInt32} (h : SnAt w0 b X) (hI : SnI X (txs l) K) (hL : l.length ≤ 1000) (hlow : l = [] ∨ X.low = low) (x : Id) : Calls Try.prog 48 #[ptr b, x.v] w0 fun e w' => e = .returned (hasV low l x) ∧ Chg N0 w0 w' := by
  have hln : (txs l).length = l.length := by unfold txs; rw [List.length_map]
  refine Calls.mono (shas_any h x (by have := hI.lw_len x; omega)) ?_
  rintro e w ⟨rfl, hc⟩
  refine ⟨congrArg Ending.returned ((has_doc hI x).trans ?_), hc⟩
  unfold hasV
  rcases hlow with rfl | rfl
  · rfl
  · rfl
theorem stimesI_any {l : List Blk} (h : SnAt w0 b X) (hI : SnI X (txs l) K) (hL : l.length ≤ 1000) (x : Id) : Calls Try.prog 70 #[ptr b, x.v] w0 fun e w' => e = .returned (i64 (rTimes l x)) ∧ Chg N0 w0 w' := by
  have hln : (txs l).length = l.length := by unfold txs; rw [List.length_map]
  have := stimes_any h x (by have := hI.lw_len x; omega)
  rwa [times_doc hI] at this
end
end Go.Proofs.Ytdncnepedkkamaa
/- DocJ: the document's list of a hint's ids, id by id. No program in sight. -/
namespace Go.Proofs.Ytdncnepedkkamaa
set_option linter.unusedSimpArgs false
set_option linter.unusedVariables false
open Go.RowKit
set_option maxRecDepth 100000
set_option maxHeartbeats 2000000
/-- behind j ids of a block's ones -/
def docJ (out l : List Id) (j : Nat) : List Id := out ++ (l.take j).filter fun y => !decide (y ∈ out)
theorem docJ_step {out l : List Id} {j : Nat} {y : Id} (hd : l.Nodup) (hy : l[j]? = some y) : (y ∈ docJ out l j ↔ y ∈ out) ∧ docJ out l (j + 1) = if y ∈ out then docJ out l j else docJ out l j ++ [y] := by
  have hn := not_take hd hy
  have htk : l.take (j + 1) = l.take j ++ [y] := by rw [List.take_add_one, hy]; rfl
  constructor
  · unfold docJ
    rw [List.mem_append, List.mem_filter]
    exact ⟨fun h => h.elim id fun h => (hn h.1).elim, .inl⟩
  · unfold docJ
    rw [htk, List.filter_append]
    by_cases hm : y ∈ out
    · rw [if_pos hm]; simp [hm]
    · rw [if_neg hm]; simp [hm]
theorem docJ_all (k : Hint) (out t : List Id) : docJ out (t.filter fun y => decide (hintOf y = k)) (t.filter fun y => decide (hintOf y = k)).length = docS k out t := by
  unfold docJ docS
  rw [List.take_length, List.filter_filter]
  congr 1
  apply List.filter_congr
  intro y _
  rw [Bool.and_comm]
end Go.Proofs.Ytdncnepedkkamaa
