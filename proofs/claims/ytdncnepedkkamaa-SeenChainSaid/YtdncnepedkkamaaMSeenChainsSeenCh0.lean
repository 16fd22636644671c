/- SeenCh0: an index of package seen beside a chain: what both hold, step by step. No condition. -/
import Derived.Test.YtdncnepedkkamaaMSeenChainsChain3
import Derived.Test.YtdncnepedkkamaaMSeenChain35
import Derived.Test.YtdncnepedkkamaaMSeenChain8
namespace Go.Proofs.Ytdncnepedkkamaa
set_option linter.unusedSimpArgs false
set_option linter.unusedVariables false
open Go.RowKit
set_option maxRecDepth 100000
set_option maxHeartbeats 2000000
abbrev boL (q : Bool) : List Value := [.bool q]
def Chn.lowU (C : Chn) : UInt32 := if C.win.l = [] then 0 else UInt32.ofNat C.low
def Chn.hiU (C : Chn) : UInt32 := if C.win.l = [] then 0 else C.ht
/-- an index that holds of a chain's window what it should -/
structure Bth (C : Chn) (X : Snx) (T : List (Sl Id)) (K : Nat) : Prop where
  c : ChI C
  x : SnI X (txs C.win.l) K
  low : C.win.l = [] ∨ X.low.toNat = C.low
  tx : ∀ c ∈ X.bs.l, c.tx ∈ T
  tc : ∀ c ∈ C.win.l, c.tx ∈ T
theorem Bth.more {C : Chn} {X : Snx} {T : List (Sl Id)} {K K' : Nat} (h : Bth C X T K) (hK : K ≤ K') : Bth C X T K' := ⟨h.c, h.x.more hK, h.low, h.tx, h.tc⟩
theorem Bth.len {C : Chn} {X : Snx} {T : List (Sl Id)} {K : Nat} (h : Bth C X T K) : C.win.l.length ≤ 17 := by have := h.c.len; have := h.c.dep; omega
theorem Bth.lowE {C : Chn} {X : Snx} {T : List (Sl Id)} {K : Nat} (h : Bth C X T K) : C.win.l = [] ∨ X.low = UInt32.ofNat C.low := h.low.imp id fun h1 => by rw [← h1]; simp
section
variable {w0 : World} {bx bc : Nat} {C : Chn} {X : Snx} {T : List (Sl Id)} {K : Nat}
theorem bspan_any (h : SnAt w0 bx X) (hI : Bth C X T K) : Calls Try.prog 44 #[ptr bx] w0 fun e w' => e = .returned (.tuple #[u32 C.lowU, u32 C.hiU]) ∧ Chg N0 w0 w' := by
  have hlen := hI.x.len
  rw [txs_len] at hlen
  have hle := hI.c.le
  by_cases h0 : C.win.l = []
  · have h1 : X.bs.l = [] := List.eq_nil_of_length_eq_zero (by rw [hlen, h0]; rfl)
    unfold Chn.lowU Chn.hiU
    rw [if_pos h0, if_pos h0]
    exact sspan_none h h1
  · have hl : 0 < C.win.l.length := List.length_pos_iff.2 h0
    have hX := hI.low.resolve_left h0
    unfold Chn.lowU Chn.hiU
    rw [if_neg h0, if_neg h0, ← hI.lowE.resolve_left h0]
    exact sspan_any h (n := C.win.l.length - 1) (by omega) (by rw [hX]; unfold Chn.low; omega)
theorem blen_any (h : SnAt w0 bx X) (hI : Bth C X T K) : Calls Try.prog 45 #[ptr bx] w0 fun e w' => e = .returned (i64 C.win.l.length) ∧ Chg N0 w0 w' := by
  have hlen := hI.x.len
  rw [txs_len] at hlen
  have := slen_any h
  rwa [hlen] at this
theorem cwin_any (h : ChAt w0 bc C) : Calls Try.prog 41 #[ptr bc] w0 fun e w' => ∃ A c, e = .returned (.slice A C.win.l.length c) ∧ Chg N0 w0 w' := by
  refine Calls.mono (cwindow_any h) ?_
  rintro e w ⟨r, hr, rfl, hc⟩
  exact ⟨r.A, r.c, by rw [Sl.v, hr], hc⟩
theorem hi_pos (h : (C.win.l.length : Int) > 0) : C.hiU = C.ht := if_neg fun h0 => by rw [h0] at h; simp at h
theorem blow_any (h : ChAt w0 bc C) : Calls Try.prog 46 #[ptr bc] w0 fun e w' => e = .returned (u32 C.lowU) ∧ Chg N0 w0 w' := clow_any h
end
section
variable {C C' : Chn} {X X' : Snx} {T T' : List (Sl Id)} {K : Nat}
theorem Bth.disc (h : Bth C X T K) (h1 : C'.depth = C.depth) (h2 : C'.ht = C.ht - 1) (h3 : 2 ≤ C.win.l.length) (h4 : C'.win.l = C.win.l.dropLast) (g1 : SnI X' (txs C.win.l).dropLast (K + 32)) (g2 : X'.low = X.low) (g3 : ∀ c ∈ X'.bs.l, c ∈ X.bs.l) : Bth C' X' T (K + 32) := by
  have hle := h.c.le
  have hln := h.c.len
  have hlt := C.ht.toNat_lt
  have hl : C'.win.l.length = C.win.l.length - 1 := by rw [h4, List.length_dropLast]
  have hd : C'.ht.toNat = C.ht.toNat - 1 := by
    rw [h2, UInt32.toNat_sub_of_le _ _ (by rw [UInt32.le_iff_toNat_le]; show 1 ≤ _; omega)]
    rfl
  have hm : ∀ c ∈ C'.win.l, c ∈ C.win.l := fun c hc => by rw [h4] at hc; exact (List.dropLast_sublist _).subset hc
  refine ⟨⟨by rw [h1]; exact h.c.dep, by rw [h1, hl]; omega, by rw [hl, hd]; omega, fun c hc => h.c.nd c (hm c hc)⟩, ?_, ?_, fun c hc => h.tx c (g3 c hc), fun c hc => h.tc c (hm c hc)⟩
  · rw [h4, txs, List.map_dropLast]
    exact g1
  · right
    rw [g2, h.low.resolve_left (fun h0 => by rw [h0] at h3; simp at h3)]
    unfold Chn.low
    rw [hl, hd]
    omega
theorem Bth.push (h : Bth C X T K) {x : Blk} {s : Sl Id} (hR : rightB x = true) (htop : (C.ht.toNat : Int) ≠ 4294967295) (h1 : C'.depth = C.depth) (h2 : C'.ht = C.ht + 1) :
    pushE X.low (txs C.win.l).length C'.ht (rightB x) = 0 ∧ pushL X.low (txs C.win.l) C'.ht x.tx.l (rightB x) = txs C.win.l ++ [x.tx.l] ∧ pushW X.low (txs C.win.l).length C'.ht (rightB x) = UInt32.ofNat C.low := by
  have hle := h.c.le
  have hlt := C.ht.toNat_lt
  have hd : C'.ht.toNat = C.ht.toNat + 1 := by
    rw [h2, UInt32.toNat_add]
    show (C.ht.toNat + 1) % 4294967296 = _
    omega
  have hE : pushE X.low (txs C.win.l).length C'.ht (rightB x) = 0 := by
    unfold pushE
    rw [hR, txs_len]
    by_cases h0 : C.win.l.length = 0
    · simp [h0]
    · have hX := h.low.resolve_left fun e => h0 (by rw [e]; rfl)
      rw [if_neg (by simp), if_neg h0, if_pos]
      rw [hX, hd]
      unfold Chn.low
      omega
  refine ⟨hE, if_pos hE, ?_⟩
  unfold pushW
  rw [txs_len, hR]
  by_cases h0 : C.win.l.length = 0
  · rw [if_pos ⟨rfl, h0⟩]
    refine UInt32.toNat_inj.1 ?_
    unfold Chn.low
    rw [UInt32.toNat_ofNat_of_lt' (by show _ < 4294967296; omega), hd]
    omega
  · rw [if_neg fun hh => h0 hh.2]
    exact h.lowE.resolve_left fun e => h0 (by rw [e]; rfl)
theorem low_lt (h : ChI C) (htop : (C.ht.toNat : Int) ≠ 4294967295) : (UInt32.ofNat C.low).toNat = C.low := by
  have hlt := C.ht.toNat_lt
  exact UInt32.toNat_ofNat_of_lt' (by show _ < 4294967296; unfold Chn.low; omega)
theorem Bth.conn_c (h : Bth C X T K) {x : Blk} {s : Sl Id} (hR : rightB x = true) (htop : (C.ht.toNat : Int) ≠ 4294967295) (hs : s.l = x.tx.l) (h1 : C'.depth = C.depth) (h2 : C'.ht = C.ht + 1) (h4 : C'.win.l = if (C.win.l.length : Int) ≤ C.depth then C.win.l ++ [{ x with tx := s }] else (C.win.l ++ [{ x with tx := s }]).drop 1) : ChI C' ∧ ∀ c ∈ C'.win.l, c.tx ∈ [s] ++ T := by
  have hle := h.c.le
  have hln := h.c.len
  have hdp := h.c.dep
  have hlt := C.ht.toNat_lt
  have hd : C'.ht.toNat = C.ht.toNat + 1 := by
    rw [h2, UInt32.toNat_add]
    show (C.ht.toNat + 1) % 4294967296 = _
    omega
  have hr := right_iff hR
  have hl : C'.win.l.length = if (C.win.l.length : Int) ≤ C.depth then C.win.l.length + 1 else C.win.l.length := by
    rw [h4]
    split <;> simp
  have hm : ∀ c ∈ C'.win.l, c ∈ C.win.l ∨ c = { x with tx := s } := fun c hc => by
    rw [h4] at hc
    split at hc
    · simpa using hc
    · have := List.mem_of_mem_drop hc
      simpa using this
  refine ⟨⟨by rw [h1]; exact h.c.dep, by rw [h1, hl]; split <;> omega, by rw [hl, hd]; split <;> omega, fun c hc => ?_⟩, fun c hc => ?_⟩
  · rcases hm c hc with hc | hc
    · exact h.c.nd c hc
    · subst hc
      show s.l.Nodup ∧ s.l.length ≤ 32
      rw [hs]
      exact ⟨hr.2, hr.1⟩
  · rcases hm c hc with hc | hc
    · exact List.mem_cons_of_mem _ (h.tc c hc)
    · subst hc
      exact List.mem_cons_self ..
theorem Bth.conn1 (h : Bth C X T K) {x : Blk} {s : Sl Id} (hR : rightB x = true) (htop : (C.ht.toNat : Int) ≠ 4294967295) (hs : s.l = x.tx.l) (h1 : C'.depth = C.depth) (h2 : C'.ht = C.ht + 1) (hfull : (C.win.l.length : Int) ≤ C.depth) (h4 : C'.win.l = C.win.l ++ [{ x with tx := s }])
    (g1 : SnI X' (txs C.win.l ++ [x.tx.l]) (K + 32)) (g2 : X'.low = UInt32.ofNat C.low) (g3 : ∀ c ∈ X'.bs.l, c ∈ X.bs.l ∨ c.tx ∈ T') : Bth C' X' (T' ++ s :: T) (K + 32) := by
  have hle := h.c.le
  have hlt := C.ht.toNat_lt
  have hl : C'.win.l.length = C.win.l.length + 1 := by rw [h4, List.length_append]; rfl
  have hd : C'.ht.toNat = C.ht.toNat + 1 := by
    rw [h2, UInt32.toNat_add]
    show (C.ht.toNat + 1) % 4294967296 = _
    omega
  have hr := right_iff hR
  refine ⟨⟨by rw [h1]; exact h.c.dep, by rw [h1, hl]; omega, by rw [hl, hd]; omega, fun c hc => ?_⟩, ?_, ?_, fun c hc => ?_, fun c hc => ?_⟩
  · rw [h4] at hc
    rcases List.mem_append.1 hc with hc | hc
    · exact h.c.nd c hc
    · rw [List.mem_singleton] at hc
      subst hc
      show s.l.Nodup ∧ s.l.length ≤ 32
      rw [hs]
      exact ⟨hr.2, hr.1⟩
  · have : txs C'.win.l = txs C.win.l ++ [x.tx.l] := by rw [h4, txs, List.map_append, ← hs]; rfl
    rw [this]
    exact g1
  · right
    rw [g2, low_lt h.c htop]
    unfold Chn.low
    rw [hl, hd]
    omega
  · rcases g3 c hc with h5 | h5
    · exact List.mem_append_right _ (List.mem_cons_of_mem _ (h.tx c h5))
    · exact List.mem_append_left _ h5
  · rw [h4] at hc
    rcases List.mem_append.1 hc with hc | hc
    · exact List.mem_append_right _ (List.mem_cons_of_mem _ (h.tc c hc))
    · rw [List.mem_singleton] at hc
      subst hc
      exact List.mem_append_right _ (List.mem_cons_self ..)
theorem Bth.conn2 (h : Bth C X T K) {x : Blk} {s : Sl Id} (hR : rightB x = true) (htop : (C.ht.toNat : Int) ≠ 4294967295) (hs : s.l = x.tx.l) (h1 : C'.depth = C.depth) (h2 : C'.ht = C.ht + 1) (hfull : ¬ (C.win.l.length : Int) ≤ C.depth) (h4 : C'.win.l = (C.win.l ++ [{ x with tx := s }]).drop 1)
    {X2 : Snx} (g1 : SnI X2 (txs C.win.l ++ [x.tx.l]).tail (K + 64)) (g0 : X'.low = UInt32.ofNat C.low) (g2 : X2.low = if txs C.win.l ++ [x.tx.l] = [] then X'.low else X'.low + 1) (g3 : ∀ c ∈ X'.bs.l, c ∈ X.bs.l ∨ c.tx ∈ T') (g4 : ∀ c ∈ X2.bs.l, c ∈ X'.bs.l) : Bth C' X2 (T' ++ s :: T) (K + 64) := by
  have hle := h.c.le
  have hlt := C.ht.toNat_lt
  have hln := h.c.len
  have hdp := h.c.dep
  have hl : C'.win.l.length = C.win.l.length := by rw [h4, List.length_drop, List.length_append]; simp
  have hd : C'.ht.toNat = C.ht.toNat + 1 := by
    rw [h2, UInt32.toNat_add]
    show (C.ht.toNat + 1) % 4294967296 = _
    omega
  have hr := right_iff hR
  have hm : ∀ c ∈ C'.win.l, c ∈ C.win.l ∨ c = { x with tx := s } := fun c hc => by
    rw [h4] at hc
    have := List.mem_of_mem_drop hc
    simpa using this
  refine ⟨⟨by rw [h1]; exact h.c.dep, by rw [h1, hl]; omega, by rw [hl, hd]; omega, fun c hc => ?_⟩, ?_, ?_, fun c hc => ?_, fun c hc => ?_⟩
  · rcases hm c hc with hc | hc
    · exact h.c.nd c hc
    · subst hc
      show s.l.Nodup ∧ s.l.length ≤ 32
      rw [hs]
      exact ⟨hr.2, hr.1⟩
  · have : txs C'.win.l = (txs C.win.l ++ [x.tx.l]).tail := by
      rw [h4, txs, List.map_drop, List.map_append, ← hs, List.drop_one]
      rfl
    rw [this]
    exact g1
  · right
    rw [g2, if_neg (by simp), g0, UInt32.toNat_add, low_lt h.c htop]
    show (C.low + 1) % 4294967296 = _
    unfold Chn.low
    rw [hl, hd]
    omega
  · rcases g3 c (g4 c hc) with h5 | h5
    · exact List.mem_append_right _ (List.mem_cons_of_mem _ (h.tx c h5))
    · exact List.mem_append_left _ h5
  · rcases hm c hc with hc | hc
    · exact List.mem_append_right _ (List.mem_cons_of_mem _ (h.tc c hc))
    · subst hc
      exact List.mem_append_right _ (List.mem_cons_self ..)
end
end Go.Proofs.Ytdncnepedkkamaa
