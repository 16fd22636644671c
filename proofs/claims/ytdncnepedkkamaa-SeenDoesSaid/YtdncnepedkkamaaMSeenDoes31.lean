/- MSeenDoes31: Seen8, Ref27d, SortF. -/
import Derived.Test.YtdncnepedkkamaaMSeenDoes27
import Derived.Test.YtdncnepedkkamaaMSeenDoes29
import Derived.Test.YtdncnepedkkamaaMSeenDoes30
import Derived.Test.YtdncnepedkkamaaMSeenDoes25
import Derived.Test.YtdncnepedkkamaaMSeenDoes4
import Derived.Test.YtdncnepedkkamaaMSeenDoessSlice
import Derived.Shelf.SlSortCmp.NoneTotal
/- Seen8: an index of package seen: Push, Pop, Shift, Clone, whatever they find. Of indices that hold what they should. -/
namespace Go.Proofs.Ytdncnepedkkamaa
set_option linter.unusedSimpArgs false
set_option linter.unusedVariables false
open Go.RowKit
set_option maxRecDepth 100000
set_option maxHeartbeats 2000000
theorem Mut.outRow {w w' : World} {r : Res} {L L' : List Res} (m : Mut (star L) (star (r :: L')) w w') : Mut (star L) (star [star L', r]) w w' := by
  have h : Hp (star L).dom w w' [star (r :: L')] := ⟨m.chg, fun x hx => by rw [List.mem_singleton] at hx; subst hx; exact m.ok, List.pairwise_singleton .., fun x hx b hb => by rw [List.mem_singleton] at hx; subst hx; exact m.dom b hb⟩
  exact h.outRow.shut (.refl _)
theorem Mut.out0 {w w' : World} {r r' : Res} (m : Mut r r' w w') : Mut r (star [r']) w w' := by
  have h : Hp r.dom w w' [r'] := ⟨m.chg, fun x hx => by rw [List.mem_singleton] at hx; subst hx; exact m.ok, List.pairwise_singleton .., fun x hx b hb => by rw [List.mem_singleton] at hx; subst hx; exact m.dom b hb⟩
  exact ⟨m.chg, star_ok.2 ⟨h.ok, h.sep⟩, fun b hb => by
    obtain ⟨x, hx, hxb⟩ := star_dom.1 hb
    exact h.own x hx b hxb⟩
/-- copies of transactions -/
def txR (s : Sl Id) : Res := rowR 62 32 Id.c s
theorem SnI.lw_len {X : Snx} {L : List (List Id)} {K : Nat} (h : SnI X L K) (x : Id) : (idx X.lw x).l.length ≤ L.length := by rw [h.w]; exact plcs_len
theorem flat_le {L : List (List Id)} (h : ∀ t ∈ L, t.length ≤ 32) : L.flatten.length ≤ 32 * L.length := by
  induction L with
  | nil => simp
  | cons t L ih =>
    have h1 := h t (by simp)
    have h2 := ih fun u hu => h u (by simp [hu])
    simp only [List.flatten_cons, List.length_append, List.length_cons]
    omega
theorem SnI.lh_len {X : Snx} {L : List (List Id)} {K : Nat} (h : SnI X L K) (k : Hint) : (idx X.lh k).l.length ≤ 32 * L.length := by
  refine Nat.le_trans (List.Nodup.length_le_of_subset (h.hn k) (l₂ := L.flatten) fun y hy => ?_) (flat_le fun t ht => (h.nd t ht).2)
  obtain ⟨_, t, ht, hyt⟩ := (h.h k y).1 hy
  exact List.mem_flatten.2 ⟨t, ht, hyt⟩
theorem SnI.more {X : Snx} {L : List (List Id)} {K K' : Nat} (h : SnI X L K) (hK : K ≤ K') : SnI X L K' :=
  ⟨h.bs, h.top, h.nd, h.w, h.hn, h.h, by have := h.nw; omega, by have := h.nh; omega⟩
theorem SnI.len {X : Snx} {L : List (List Id)} {K : Nat} (h : SnI X L K) : X.bs.l.length = L.length := by rw [← h.bs, List.length_map]
theorem SnI.same {X Y : Snx} {L : List (List Id)} {K : Nat} (h : SnI X L K) (s : SnSame X Y) : SnI Y L K :=
  ⟨by rw [s.bs]; exact h.bs, by rw [s.low]; exact h.top, h.nd, fun x => by rw [s.w, s.low]; exact h.w x, fun k => by rw [s.h]; exact h.hn k, fun k y => by rw [s.h]; exact h.h k y, by rw [s.nw]; exact h.nw, by rw [s.nh]; exact h.nh⟩
theorem right_iff {b : Blk} (h : rightB b = true) : b.tx.l.length ≤ 32 ∧ b.tx.l.Nodup := by
  simp only [rightB, Bool.and_eq_true, decide_eq_true_eq] at h
  exact ⟨h.1.1, h.2⟩
/-- what a Push answers, and what comes of it -/
def pushE (low : UInt32) (n : Nat) (ht : UInt32) (R : Bool) : Int := if R = false then 4 else if n = 0 then 0 else if (ht.toNat : Int) = low.toNat + (n : Nat) then 0 else 1
def pushL {α : Type} (low : UInt32) (L : List α) (ht : UInt32) (t : α) (R : Bool) : List α := if pushE low L.length ht R = 0 then L ++ [t] else L
def pushW (low : UInt32) (n : Nat) (ht : UInt32) (R : Bool) : UInt32 := if R = true ∧ n = 0 then ht else low
section
variable {w0 : World} {b : Nat} {X : Snx} {L : List (List Id)} {K : Nat}
theorem spushI_any (h : (star (snRs b X)).ok w0) (hI : SnI X L K) (hK : K ≤ 800000) (hL : L.length ≤ 1000) {ht : UInt32} {B : Blk} {C : Nat} (hB : SlOut (star (snRs b X)).dom C w0 Id.c 32 B.tx) :
    Calls Try.prog 30 #[ptr b, u32 ht, B.v] w0 fun e w' => e = .returned (i64 (pushE X.low L.length ht (rightB B))) ∧ ∃ X', ∃ T' : List (Sl Id), SnI X' (pushL X.low L ht B.tx.l (rightB B)) (K + 32) ∧ X'.low = pushW X.low L.length ht (rightB B) ∧ (∀ c ∈ X'.bs.l, c ∈ X.bs.l ∨ c.tx ∈ T') ∧ Mut (star (snRs b X)) (star (star (snRs b X') :: T'.map txR)) w0 w' := by
  have hat := snAt (Hp.open h) (.refl _)
  have hlen := hI.len
  cases hR : rightB B with
  | false =>
    refine Calls.mono (spush_bad hat ht hB.at_ hR) ?_
    rintro e w ⟨rfl, hc⟩
    exact ⟨rfl, X, [], hI.more (by omega), by simp [pushW], fun c hc => .inl hc, (Mut.of0 h hc).out0⟩
  | true =>
    obtain ⟨hr1, hr2⟩ := right_iff hR
    by_cases hcs : (L = [] ∧ pushW X.low L.length ht true = ht) ∨ (L ≠ [] ∧ pushW X.low L.length ht true = X.low ∧ (ht.toNat : Int) = X.low.toNat + (L.length : Nat))
    · have hE : pushE X.low L.length ht true = 0 := by
        unfold pushE
        rcases hcs with ⟨h1, _⟩ | ⟨_, _, h2⟩
        · subst h1; rfl
        · rw [if_neg (by simp), if_pos h2]
          simp
      rw [hE, show pushL X.low L ht B.tx.l true = L ++ [B.tx.l] from if_pos hE]
      have hbs : X.bs.l = [] ↔ L = [] := by rw [← List.length_eq_zero_iff, hlen, List.length_eq_zero_iff]
      have hn1 := hI.nw
      have hn2 := hI.nh
      refine Calls.mono (spush_any h (ht := ht) (low' := pushW X.low L.length ht true) ?_ (by omega) hR hB hr2 hr1 (fun x => by have := hI.lw_len x; omega) (fun k => by have := hI.lh_len k; omega) (by omega) (by omega) fun x p hp => ?_) ?_
      · rcases hcs with ⟨h1, h2⟩ | ⟨h1, h2, h3⟩
        · exact .inl ⟨hbs.2 h1, h2⟩
        · exact .inr ⟨fun h0 => h1 (hbs.1 h0), h2, by rw [hlen]; exact h3⟩
      · rw [hI.w] at hp
        obtain ⟨i, h1, h2⟩ := plcs_h hp
        rcases hcs with ⟨h3, _⟩ | ⟨_, _, h3⟩
        · subst h3; simp at h1
        · have h4 := ht.toNat_lt
          rw [h2]
          intro h5
          have h6 := congrArg UInt32.toNat h5
          rw [UInt32.toNat_ofNat_of_lt' (by show _ < 4294967296; omega)] at h6
          omega
      · rintro e w ⟨rfl, lw, nw, lh, nh, s, s', hs, hs', hPI, hmt⟩
        refine ⟨rfl, _, [s], hI.push (B := { B with tx := s }) hcs hr2 hr1 hPI hs' hs, rfl, fun c hc => ?_, hmt.outRow⟩
        have hc : c ∈ s'.l := hc
        rw [hs'] at hc
        rcases List.mem_append.1 hc with hc | hc
        · exact .inl hc
        · rw [List.mem_singleton] at hc
          subst hc
          exact .inr (by simp)
    · have hne : L ≠ [] := fun h0 => hcs (.inl ⟨h0, by subst h0; simp [pushW]⟩)
      have hl0 : L.length ≠ 0 := fun h0 => hne (List.eq_nil_of_length_eq_zero h0)
      have hW : pushW X.low L.length ht true = X.low := if_neg fun hh => hl0 hh.2
      have hht : ¬ (ht.toNat : Int) = X.low.toNat + (L.length : Nat) := fun h0 => hcs (.inr ⟨hne, hW, h0⟩)
      have hE : pushE X.low L.length ht true = 1 := by
        unfold pushE
        rw [if_neg (by simp), if_neg hl0, if_neg hht]
      rw [hE, show pushL X.low L ht B.tx.l true = L from if_neg (by rw [hE]; omega), hW]
      refine Calls.mono (spush_far hat hB.at_ hR (fun h0 => hl0 (by rw [← hlen, h0]; rfl)) (by omega) (by rw [hlen]; exact hht)) ?_
      rintro e w ⟨rfl, hc⟩
      exact ⟨rfl, X, [], hI.more (by omega), rfl, fun c hc => .inl hc, (Mut.of0 h hc).out0⟩
theorem spopI_any (h : (star (snRs b X)).ok w0) (hI : SnI X L K) (hK : K ≤ 800000) (hL : L.length ≤ 1000) {C : Nat} (hB : ∀ c ∈ X.bs.l, SlOut (star (snRs b X)).dom C w0 Id.c 32 c.tx) :
    Calls Try.prog 32 #[ptr b] w0 fun e w' => e = .returned (.bool (decide (L ≠ []))) ∧ ∃ X', SnI X' L.dropLast (K + 32) ∧ X'.low = X.low ∧ (∀ c ∈ X'.bs.l, c ∈ X.bs.l) ∧ Mut (star (snRs b X)) (star (snRs b X')) w0 w' := by
  have hat := snAt (Hp.open h) (.refl _)
  have hbs := hI.bs
  rcases List.eq_nil_or_concat X.bs.l with h0 | ⟨Bs, B, h0⟩
  · rw [h0] at hbs
    have hL0 : L = [] := hbs.symm
    subst hL0
    refine Calls.mono (spop_none hat h0) ?_
    rintro e w ⟨rfl, hc⟩
    exact ⟨rfl, X, hI.more (by omega), rfl, fun c hc => hc, Mut.of0 h hc⟩
  · rw [List.concat_eq_append] at h0
    have hL0 : L = Bs.map (fun B => B.tx.l) ++ [B.tx.l] := by rw [← hbs, h0, List.map_append]; rfl
    obtain ⟨L0, hL1⟩ : ∃ L0, Bs.map (fun B : Blk => B.tx.l) = L0 := ⟨_, rfl⟩
    have hBl : Bs.length = L0.length := by rw [← hL1, List.length_map]
    rw [hL1] at hL0
    subst hL0
    have htop := hI.top
    rw [List.length_append, List.length_singleton] at htop hL
    have hn1 := hI.nw
    have hn2 := hI.nh
    obtain ⟨hd, hl⟩ := hI.nd B.tx.l (by simp)
    have hht : (X.low.toNat : Int) + (L0.length : Nat) = (UInt32.ofNat (X.low.toNat + L0.length)).toNat := by
      rw [UInt32.toNat_ofNat_of_lt' (by show _ < 4294967296; omega)]; omega
    refine Calls.mono (spop_any h h0 (ht := UInt32.ofNat (X.low.toNat + L0.length)) (by rw [hBl]; exact hht) (hB B (by rw [h0]; simp)) hd (by omega) (fun x => by have := hI.lw_len x; rw [List.length_append, List.length_singleton] at this; omega) (fun k => by have := hI.lh_len k; rw [List.length_append, List.length_singleton] at this; omega) (by omega) (by omega) hI.hn fun k y hy => ((hI.h k y).1 hy).1) ?_
    rintro e w ⟨rfl, lw, nw, lh, nh, hS, hmt⟩
    refine ⟨by simp, { X with bs := ⟨X.bs.A, Bs.length, Bs⟩, lw := lw, nw := nw, lh := lh, nh := nh }, by rw [List.dropLast_concat]; exact hI.pop hht hS (s' := ⟨X.bs.A, Bs.length, Bs⟩) hL1, rfl, fun c hc => ?_, hmt⟩
    have hc : c ∈ Bs := hc
    rw [h0]
    exact List.mem_append_left _ hc
theorem sshiftI_any (h : (star (snRs b X)).ok w0) (hI : SnI X L K) (hK : K ≤ 800000) (hL : L.length ≤ 1000) {C : Nat} (hB : ∀ c ∈ X.bs.l, SlOut (star (snRs b X)).dom C w0 Id.c 32 c.tx) :
    Calls Try.prog 34 #[ptr b] w0 fun e w' => e = .returned (.bool (decide (L ≠ []))) ∧ ∃ X', SnI X' L.tail (K + 32) ∧ X'.low = (if L = [] then X.low else X.low + 1) ∧ (∀ c ∈ X'.bs.l, c ∈ X.bs.l) ∧ Mut (star (snRs b X)) (star (snRs b X')) w0 w' := by
  have hat := snAt (Hp.open h) (.refl _)
  have hbs := hI.bs
  rcases h0 : X.bs.l with _ | ⟨B, Bs⟩
  · rw [h0] at hbs
    have hL0 : L = [] := hbs.symm
    subst hL0
    refine Calls.mono (sshift_none hat h0) ?_
    rintro e w ⟨rfl, hc⟩
    exact ⟨rfl, X, hI.more (by omega), rfl, fun c hc => by rw [h0] at hc; exact hc, Mut.of0 h hc⟩
  · have hL0 : L = B.tx.l :: Bs.map (fun B => B.tx.l) := by rw [← hbs, h0]; rfl
    obtain ⟨L0, hL1⟩ : ∃ L0, Bs.map (fun B : Blk => B.tx.l) = L0 := ⟨_, rfl⟩
    have hBl : Bs.length = L0.length := by rw [← hL1, List.length_map]
    rw [hL1] at hL0
    subst hL0
    rw [List.length_cons] at hL
    have hn1 := hI.nw
    have hn2 := hI.nh
    obtain ⟨hd, hl⟩ := hI.nd B.tx.l (by simp)
    refine Calls.mono (sshift_any h h0 (by omega) (hB B (by rw [h0]; simp)) hd (by omega) (fun x => by have := hI.lw_len x; rw [List.length_cons] at this; omega) (fun k => by have := hI.lh_len k; rw [List.length_cons] at this; omega) (by omega) (by omega) hI.hn fun k y hy => ((hI.h k y).1 hy).1) ?_
    rintro e w ⟨rfl, lw, nw, lh, nh, s', hs', hS, hmt⟩
    refine ⟨by simp, { X with low := X.low + 1, bs := s', lw := lw, nw := nw, lh := lh, nh := nh }, hI.shift hS (s' := s') (by rw [hs']; exact hL1), by simp, fun c hc => ?_, hmt⟩
    have hc : c ∈ s'.l := hc
    rw [hs'] at hc
    exact List.mem_cons_of_mem _ hc
theorem scloneI_any (h : SnAt w0 b X) (hI : SnI X L K) (hL : L.length ≤ 1000) : Calls Try.prog 35 #[ptr b] w0 fun e w' => ∃ b2 Y, SnI Y L K ∧ Y.low = X.low ∧ Y.bs.l = X.bs.l ∧ e = .returned (ptr b2) ∧ Made (star (snRs b2 Y)) w0 w' := by
  refine Calls.mono (sclone_any h (by rw [hI.len]; omega) (fun x => by have := hI.lw_len x; omega) fun k => by have := hI.lh_len k; omega) ?_
  rintro e w ⟨b2, Y, hs, rfl, hm⟩
  exact ⟨b2, Y, hI.same hs, hs.low, hs.bs, rfl, hm⟩
end
end Go.Proofs.Ytdncnepedkkamaa
/- Ref27d: the document's index of transactions: Push, Pop, Shift, whatever they find. -/
namespace Go.Proofs.Ytdncnepedkkamaa
set_option linter.unusedSimpArgs false
set_option linter.unusedVariables false
open Go.RowKit
set_option maxRecDepth 100000
set_option maxHeartbeats 2000000
section
variable {w0 : World} {low : UInt32} {L : Sl Blk}
theorem rpushD_any (h : (seeR 65 Blk.c L).ok w0) (hL : L.l.length ≤ 1000) {ht : UInt32} {b : Blk} {B : Nat} (hb : SlAt B w0 Id.c 32 b.tx) (hBw : B ≤ w0.heap.size) :
    Calls Try.prog 29 #[.agg #[u32 low, L.v], u32 ht, b.v] w0 fun e w' => ∃ r : Sl Blk, r.l = pushL low L.l ht b (rightB b) ∧ e = .returned (.tuple #[.agg #[u32 (pushW low L.l.length ht (rightB b)), r.v], i64 (pushE low L.l.length ht (rightB b))]) ∧ Mut (seeR 65 Blk.c L) (seeR 65 Blk.c r) w0 w' := by
  cases hR : rightB b with
  | false =>
    refine Calls.mono (rpush27_bad hb hR) ?_
    rintro e w ⟨rfl, hc⟩
    exact ⟨L, by simp [pushL, pushE], by simp [pushW, pushE], Mut.of0 h hc⟩
  | true =>
    by_cases hn : L.l = []
    · refine Calls.mono (rpush27_first hb hR hn) ?_
      rintro e w ⟨r, hr, rfl, hm⟩
      refine ⟨r, ?_, ?_, hm.see.mut⟩
      · rw [hr, hn]
        simp [pushL, pushE]
      · have h0 : L.l.length = 0 := by rw [hn]; rfl
        rw [h0]
        simp [pushW, pushE]
    · have hl0 : L.l.length ≠ 0 := fun h0 => hn (List.eq_nil_of_length_eq_zero h0)
      have hW : pushW low L.l.length ht true = low := if_neg fun hh => hl0 hh.2
      rw [hW]
      by_cases hht : (ht.toNat : Int) = low.toNat + (L.l.length : Nat)
      · have hE : pushE low L.l.length ht true = 0 := by
          unfold pushE
          rw [if_neg (by simp), if_pos hht]
          simp
        rw [hE]
        refine Calls.mono (rpush27_next h.1 (Nat.le_refl _) (hb.more hBw) hR hn (by omega) hht) ?_
        rintro e w ⟨r, hr, rfl, hm⟩
        exact ⟨r, by rw [hr]; exact (if_pos hE).symm, rfl, hm.see.mut⟩
      · have hE : pushE low L.l.length ht true = 1 := by
          unfold pushE
          rw [if_neg (by simp), if_neg hl0, if_neg hht]
        rw [hE]
        refine Calls.mono (rpush27_far hb hR hn (by omega) hht) ?_
        rintro e w ⟨rfl, hc⟩
        exact ⟨L, (if_neg (by rw [hE]; omega)).symm, rfl, Mut.of0 h hc⟩
theorem rpopD_any (h : (seeR 65 Blk.c L).ok w0) (hL : L.l.length ≤ 1000) :
    Calls Try.prog 31 #[.agg #[u32 low, L.v]] w0 fun e w' => ∃ r : Sl Blk, r.l = L.l.dropLast ∧ e = .returned (.tuple #[.agg #[u32 low, r.v], .bool (decide (L.l ≠ []))]) ∧ Mut (seeR 65 Blk.c L) (seeR 65 Blk.c r) w0 w' := by
  by_cases hn : L.l = []
  · refine Calls.mono (rpop27_none hn) ?_
    rintro e w ⟨rfl, hc⟩
    exact ⟨L, by rw [hn]; rfl, by simp [hn], Mut.of0 h hc⟩
  · have hl0 : L.l.length ≠ 0 := fun h0 => hn (List.eq_nil_of_length_eq_zero h0)
    refine Calls.mono (rpop27_any h.1 (n := L.l.length - 1) (by omega) (by omega)) ?_
    rintro e w ⟨rfl, hc⟩
    refine ⟨L.cut 65 0 (L.l.length - 1), ?_, by simp [hn], see_cut h (Nat.zero_le _) (by omega) hc⟩
    show (L.l.take _).drop 0 = _
    rw [List.drop_zero, List.dropLast_eq_take]
theorem rshiftD_any (h : (seeR 65 Blk.c L).ok w0) (hL : L.l.length ≤ 1000) :
    Calls Try.prog 33 #[.agg #[u32 low, L.v]] w0 fun e w' => ∃ r : Sl Blk, r.l = L.l.tail ∧ e = .returned (.tuple #[.agg #[u32 (if L.l = [] then low else low + 1), r.v], .bool (decide (L.l ≠ []))]) ∧ Mut (seeR 65 Blk.c L) (seeR 65 Blk.c r) w0 w' := by
  by_cases hn : L.l = []
  · refine Calls.mono (rshift27_none hn) ?_
    rintro e w ⟨rfl, hc⟩
    exact ⟨L, by rw [hn]; rfl, by simp [hn], Mut.of0 h hc⟩
  · have hl0 : 0 < L.l.length := List.length_pos_iff.2 hn
    refine Calls.mono (rshift27_any h.1 hl0) ?_
    rintro e w ⟨rfl, hc⟩
    refine ⟨L.cut 65 1 L.l.length, ?_, by simp [hn], see_cut h (by omega) (Nat.le_refl _) hc⟩
    show (L.l.take _).drop 1 = _
    rw [List.take_length, List.drop_one]
end
end Go.Proofs.Ytdncnepedkkamaa
/- SortF: rows of its own under the library's sort by a function (the kit's contract of slices.SortFunc, laid at resources). No condition. -/
namespace Go.Proofs.Ytdncnepedkkamaa
set_option linter.unusedSimpArgs false
set_option linter.unusedVariables false
open Go.RowKit Go.Shelf Go.Lib
set_option maxRecDepth 100000
set_option maxHeartbeats 2000000
/-- a world in which nothing that was there changed is the world with draws, grown -/
theorem chg_grow {w w' : World} (h : Chg N0 w w') : ∃ q os', w' = Sort.grow (w.drewN q) os' := by
  refine ⟨w'.drawn - w.drawn, w'.heap.extract w.heap.size w'.heap.size, ?_⟩
  obtain ⟨heap, tape, drawn, os, output⟩ := w
  obtain ⟨heap', tape', drawn', os', output'⟩ := w'
  obtain ⟨h1, h2, h3, h4, h5, h6⟩ := h
  dsimp only at h1 h2 h3 h4 h5 h6
  subst h1 h2 h3
  have e1 : drawn' = drawn + (drawn' - drawn) := by omega
  have e2 : heap' = heap ++ heap'.extract heap.size heap'.size := by
    apply Array.ext_getElem?
    intro i
    rcases Nat.lt_or_ge i heap.size with hi | hi
    · rw [Array.getElem?_append_left hi]
      exact h5 i hi fun hh => hh
    · rw [Array.getElem?_append_right hi, Array.getElem?_extract]
      by_cases hl : i < heap'.size
      · rw [if_pos (by omega)]
        congr 1
        omega
      · rw [if_neg (by omega), Array.getElem?_eq_none (by omega)]
  simp only [Sort.grow, World.drewN]
  rw [← e1, ← e2]
section
variable {α : Type} [Inhabited α] {enc : α → List Value} {sz : Nat} {e : TypeId} {s : Sl α} {w : World} {b : Nat}
theorem flatK_list (hk : ∀ x, (enc x).length = sz) (d : Array α) : (Sort.flatK enc sz d).toList = d.toList.flatMap enc := by
  have hl : (d.toList.flatMap enc).length = d.size * sz := by rw [flat_len (fun x _ => hk x), Array.length_toList]
  apply List.ext_getElem?
  intro t
  rcases Nat.lt_or_ge t (d.size * sz) with ht | ht
  · have h0 : 0 < sz := Nat.pos_of_ne_zero fun h => by subst h; simp at ht
    have hi : t / sz < d.size := Nat.div_lt_of_lt_mul (by rw [Nat.mul_comm]; exact ht)
    have hx : d.toList[t / sz]? = some d[t / sz]! := by rw [Array.getElem?_toList, Array.getElem?_eq_getElem hi, getElem!_pos d _ hi]
    have hm : t % sz < (enc d[t / sz]!).length := by rw [hk]; exact Nat.mod_lt _ h0
    have h1 := flat_at (l := d.toList) (fun x _ => hk x) _ _ hx (t % sz) _ (List.getElem?_eq_getElem hm)
    rw [show t / sz * sz + t % sz = t from by rw [Nat.mul_comm]; exact Nat.div_add_mod t sz] at h1
    have hts : t < (Sort.flatK enc sz d).size := by rw [Sort.size_flatK]; exact ht
    rw [h1, Array.getElem?_toList, Array.getElem?_eq_getElem hts, ← getElem!_pos (Sort.flatK enc sz d) t hts, Sort.get_flatK _ _ _ _ ht]
    rw [getElem!_pos (enc d[t / sz]!) (t % sz) hm]
  · rw [List.getElem?_eq_none (show (Sort.flatK enc sz d).toList.length ≤ t by rw [Array.length_toList, Sort.size_flatK]; exact ht), List.getElem?_eq_none (show (d.toList.flatMap enc).length ≤ t by rw [hl]; exact ht)]
omit [Inhabited α] in
theorem own_heap (h : (rowR e sz enc s).ok w) (hA : s.A = some ⟨b, 0, none⟩) : ∃ cap cur, s.c = cap ∧ w.heap[b]? = some (.cells cur e (0, 0)) ∧ s.l.length ≤ cap ∧ cap ≤ maxLen ∧ cur.size = cap * sz ∧ cur.toList.take (s.l.length * sz) = s.l.flatMap enc := by
  rcases (rowR_ok.1 h).1.2 with ⟨h1, _⟩ | ⟨g, cap, cur, h1, _, h2, h3⟩
  · injection h1 with h1
    rw [hA] at h1
    cases h1
  · injection h1 with h1 _ h4
    rw [hA] at h1
    cases h1
    exact ⟨cap, cur, h4, h2, h3⟩
theorem holdsK_own (h : (rowR e sz enc s).ok w) (hk : ∀ x, (enc x).length = sz) (hA : s.A = some ⟨b, 0, none⟩) : Sort.HoldsK enc sz w b 0 s.l.toArray := by
  obtain ⟨cap, cur, _, h2, h3, h4, h5, h6⟩ := own_heap h hA
  intro t ht
  have hf : (Sort.flatK enc sz s.l.toArray).toList[t]? = some (Sort.flatK enc sz s.l.toArray)[t]! := by rw [Array.getElem?_toList, Array.getElem?_eq_getElem ht, getElem!_pos _ t ht]
  rw [flatK_list hk, List.toList_toArray, ← h6] at hf
  rw [Sort.size_flatK, List.size_toArray] at ht
  rw [List.getElem?_take_of_lt ht, Array.getElem?_toList] at hf
  constructor
  · simp only [World.cell?, h2, Nat.zero_add, hf]
    rfl
  · simp [World.frozen?, h2]
theorem sorted_mut (h : (rowR e sz enc s).ok w) (hk : ∀ x, (enc x).length = sz) (hA : s.A = some ⟨b, 0, none⟩) (d' : Array α) (hs : d'.size = s.l.length) (n : Nat) (os : Array Obj) :
    Mut (rowR e sz enc s) (rowR e sz enc ⟨s.A, s.c, d'.toList⟩) w (sortWorldK enc sz w b 0 n d' os) := by
  obtain ⟨cap, cur, h1, h2, h3, h4, h5, h6⟩ := own_heap h hA
  have hb : b < w.heap.size := heap_lt h2
  have hheap : ∀ k, k < w.heap.size → (sortWorldK enc sz w b 0 n d' os).heap[k]? = (w.heap.modify b (Sort.onCells (Sort.putCells id 0 (Sort.flatK enc sz d'))))[k]? := fun k hk' => by
    unfold sortWorldK
    rw [Sort.heap_grow_old _ _ (by show k < (Sort.putRow id _ _ _ _).heap.size; rw [Sort.size_putRow]; exact hk')]
    rfl
  refine ⟨⟨rfl, rfl, rfl, ?_, fun k hk' hn => ?_, Nat.le_add_right _ _⟩, ?_, fun c hc => .inl (rowR_dom.2 ?_)⟩
  · unfold sortWorldK
    rw [Sort.size_grow]
    show w.heap.size ≤ (Sort.putRow id _ _ _ _).heap.size + _
    rw [Sort.size_putRow]
    exact Nat.le_add_right _ _
  · rw [hheap k hk', Array.getElem?_modify, if_neg]
    rintro rfl
    exact hn (rowR_dom.2 (by rw [Sl.v, hA]; rfl))
  · have hnew : (sortWorldK enc sz w b 0 n d' os).heap[b]? = some (.cells (Sort.putCells id 0 (Sort.flatK enc sz d') cur) e (0, 0)) := by
      rw [hheap b hb, Array.getElem?_modify, if_pos rfl, h2]
      rfl
    have hfl := flatK_list hk d'
    have hsz : (Sort.flatK enc sz d').size = s.l.length * sz := by rw [Sort.size_flatK, hs]
    have hcap : s.l.length * sz ≤ cap * sz := Nat.mul_le_mul_right _ h3
    refine rowR_ok.2 ⟨⟨?_, .inr ⟨b, cap, _, ?_, Nat.zero_le _, hnew, ?_, h4, ?_, ?_⟩⟩, fun x _ => hk x⟩
    · rw [flat_len (fun x _ => hk x)]
    · rw [Sl.v, hA, h1]
    · rw [Array.length_toList, hs]; exact h3
    · rw [Sort.putCells, Array.size_mapIdx]; exact h5
    · rw [Array.length_toList, hs, ← hfl]
      apply List.ext_getElem?
      intro t
      rcases Nat.lt_or_ge t (s.l.length * sz) with ht | ht
      · rw [List.getElem?_take_of_lt ht, Array.getElem?_toList, Array.getElem?_toList, Sort.putCells, Array.getElem?_mapIdx, Array.getElem?_eq_getElem (show t < cur.size by omega), Array.getElem?_eq_getElem (show t < (Sort.flatK enc sz d').size by omega)]
        rw [Option.map_some, if_pos ⟨Nat.zero_le _, by omega⟩, Nat.sub_zero, getElem!_pos _ t (by omega)]
        rfl
      · rw [List.getElem?_eq_none (by rw [List.length_take]; omega), List.getElem?_eq_none (by rw [Array.length_toList]; omega)]
  · have h7 := rowR_dom.1 hc
    rw [Sl.v] at h7 ⊢
    rw [hA] at h7 ⊢
    exact h7
theorem sorted_pair {lt : α → α → Bool} {d : Array α} (h : Sort.SortedIn lt 0 d.size d) : d.toList.Pairwise fun x y => lt y x = false := by
  rw [List.pairwise_iff_getElem]
  intro i j hi hj hij
  have := h i j (Nat.zero_le _) hij (by simpa using hj)
  rw [getElem!_pos d i (by simpa using hi), getElem!_pos d j (by simpa using hj)] at this
  simpa using this
variable {P : Program} {ρ : Ren}
/-- slices.SortFunc over a row of the call's own -/
theorem sortf_any (L : SlLaysF0.n6 P ρ) (aE : ∀ w, (isAgg (ρ.t 24)).run P w = .ok true w) (zE : ∀ w, (Go.sizeOf (ρ.t 24)).run P w = .ok sz w) (hk : ∀ x, (enc x).length = sz) (h1 : ∀ x, ∀ v ∈ enc x, v.oneCell' = true) (cf : α → α → Int) (hO : Sort.SWO (ltOf cf)) (g : Nat) (cb : Array Value)
    (eg : ∀ args w, (callFunc g args).run P w = .ok (.enter g args) w) (h : (rowR e sz enc s).ok w) (hm : s.l.length < 4611686018427387904)
    (hcmp : ∀ (x y : α) (W : World), Chg (rowR e sz enc s).dom w W → Calls P g (#[.agg (enc x).toArray, .agg (enc y).toArray] ++ cb) W fun e w' => e = .returned (.int .i64 (cf x y)) ∧ ∃ q os', w' = Sort.grow (W.drewN q) os') :
    Calls P (ρ.f 6) #[s.v, .func (.func g) #[] cb] w fun e' w' => e' = .returned (.tuple #[]) ∧ ∃ l' : List α, l'.Perm s.l ∧ (l'.Pairwise fun x y => ltOf cf y x = false) ∧ Mut (rowR e sz enc s) (rowR e sz enc ⟨s.A, s.c, l'⟩) w w' := by
  by_cases hA : s.A = none
  · have hl : s.l = [] := by
      rcases (rowR_ok.1 h).1.2 with ⟨_, h1⟩ | ⟨g, cap, cur, h1, _⟩
      · exact List.eq_nil_of_length_eq_zero h1
      · injection h1 with h1
        rw [hA] at h1
        cases h1
    have e1 : s.v = .slice none 0 s.c := by rw [Sl.v, hA, hl]; rfl
    rw [e1]
    refine (AnyF.slices_SortFunc_none L none s.c _ w).mono ?_
    rintro e' w' ⟨rfl, rfl⟩
    refine ⟨rfl, s.l, .refl _, by rw [hl]; exact .nil, Mut.of0 h (Chg.refl _ _)⟩
  · obtain ⟨b, hA⟩ : ∃ b, s.A = some ⟨b, 0, none⟩ := by
      rcases (rowR_ok.1 h).1.2 with ⟨h1, _⟩ | ⟨g, cap, cur, h1, _⟩
      · injection h1 with h1
        exact (hA h1).elim
      · injection h1 with h1
        exact ⟨g, h1⟩
    obtain ⟨cap, cur, _, h2, _⟩ := own_heap h hA
    have e1 : s.v = .slice (some ⟨b, 0, none⟩) s.l.toArray.size s.c := by rw [Sl.v, hA]; rfl
    rw [e1]
    refine (AnyQ.slices_SortFunc L sz aE zE enc hk h1 cf hO g cb b 0 s.c s.l.toArray w eg (fun m os dk hd x y => hcmp x y _ (sorted_mut h hk hA dk (by rw [hd]; rfl) m os).chg) (holdsK_own h hk hA) (heap_lt h2) hm).mono ?_
    rintro e' w' ⟨rfl, d', n, os, hp, hs, rfl⟩
    have hsz : d'.size = s.l.toArray.size := hp.1
    refine ⟨rfl, d'.toList, ?_, ?_, sorted_mut h hk hA d' (by rw [hsz]; rfl) n os⟩
    · have h3 := hp.2.2
      rw [Array.extract_eq_self_of_le (by rw [hsz]; exact Nat.le_refl _), Array.extract_eq_self_of_le (Nat.le_refl _)] at h3
      exact h3
    · rw [← hsz] at hs
      exact sorted_pair hs
/-- the same, by a comparing function that changes nothing that was there -/
theorem sortf_chg (L : SlLaysF0.n6 P ρ) (aE : ∀ w, (isAgg (ρ.t 24)).run P w = .ok true w) (zE : ∀ w, (Go.sizeOf (ρ.t 24)).run P w = .ok sz w) (hk : ∀ x, (enc x).length = sz) (h1 : ∀ x, ∀ v ∈ enc x, v.oneCell' = true) (cf : α → α → Int) (hO : Sort.SWO (ltOf cf)) (g : Nat) (cb : Array Value)
    (eg : ∀ args w, (callFunc g args).run P w = .ok (.enter g args) w) (h : (rowR e sz enc s).ok w) (hm : s.l.length < 4611686018427387904)
    (hcmp : ∀ (x y : α) (W : World), Chg (rowR e sz enc s).dom w W → Calls P g (#[.agg (enc x).toArray, .agg (enc y).toArray] ++ cb) W fun e w' => e = .returned (.int .i64 (cf x y)) ∧ Chg N0 W w') :
    Calls P (ρ.f 6) #[s.v, .func (.func g) #[] cb] w fun e' w' => e' = .returned (.tuple #[]) ∧ ∃ l' : List α, l'.Perm s.l ∧ (l'.Pairwise fun x y => ltOf cf y x = false) ∧ Mut (rowR e sz enc s) (rowR e sz enc ⟨s.A, s.c, l'⟩) w w' :=
  sortf_any L aE zE hk h1 cf hO g cb eg h hm fun x y W hc => (hcmp x y W hc).mono fun _ _ ⟨he, hg⟩ => ⟨he, chg_grow hg⟩
end
end Go.Proofs.Ytdncnepedkkamaa
