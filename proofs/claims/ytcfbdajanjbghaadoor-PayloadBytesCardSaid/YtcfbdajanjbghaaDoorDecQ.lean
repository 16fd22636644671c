/- DecQ: what is read is what was written, in plain Lean. -/
import Derived.Test.YtcfbdajanjbghaaDoorDecP
namespace Go.Proofs.YtcfbdajanjbghaaDoor
set_option linter.unusedSimpArgs false
set_option linter.unusedVariables false
open Go.RowKit
set_option maxRecDepth 100000
set_option maxHeartbeats 2000000

def tkB (t : TkV) : List UInt8 := (numB t.1.toNat 4 ++ numB t.2.length 1) ++ t.2
theorem bytesP_tk (l : List Tier) : bytesP l = numB l.length 1 ++ (l.map tk).flatMap tkB := by
  unfold bytesP
  congr 1
  rw [List.flatMap_map]
  rfl
theorem numB1 (n : Nat) : numB n 1 = [UInt8.ofNat n] := by
  unfold numB be8
  simp
theorem numB4 (n : Nat) : numB n 4 = [UInt8.ofNat (n / 2 ^ 24), UInt8.ofNat (n / 2 ^ 16), UInt8.ofNat (n / 2 ^ 8), UInt8.ofNat n] := by
  unfold numB be8
  simp
theorem fee_bytes (x0 x1 x2 x3 : UInt8) (rest : List UInt8) : numB (feeOf (x0 :: x1 :: x2 :: x3 :: rest)).toNat 4 = [x0, x1, x2, x3] := by
  have l0 := x0.toNat_lt
  have l1 := x1.toNat_lt
  have l2 := x2.toNat_lt
  have l3 := x3.toNat_lt
  have hv : (feeOf (x0 :: x1 :: x2 :: x3 :: rest)).toNat = ((x0.toNat * 256 + x1.toNat) * 256 + x2.toNat) * 256 + x3.toNat := by
    unfold feeOf
    have : numV ((x0 :: x1 :: x2 :: x3 :: rest).take 4) = ((x0.toNat * 256 + x1.toNat) * 256 + x2.toNat) * 256 + x3.toNat := by simp [numV]
    rw [this]
    simp
    omega
  rw [hv, numB4]
  have e : ∀ (a : Nat) (x : UInt8), a % 256 = x.toNat → UInt8.ofNat a = x := fun a x h => by
    apply UInt8.toNat_inj.1
    simpa using h
  rw [e _ x0 (by omega), e _ x1 (by omega), e _ x2 (by omega), e _ x3 (by omega)]
theorem fee_of_bytes (f : UInt32) (rest : List UInt8) : feeOf (numB f.toNat 4 ++ rest) = f := by
  have hf := f.toNat_lt
  rw [numB4]
  unfold feeOf
  have : ∀ a b c d : UInt8, numV (([a, b, c, d] ++ rest).take 4) = ((a.toNat * 256 + b.toNat) * 256 + c.toNat) * 256 + d.toNat := fun a b c d => by simp [numV]
  rw [this]
  apply UInt32.toNat_inj.1
  simp
  omega
theorem ofNat_len {n : Nat} (h : n ≤ 64) : (UInt8.ofNat n).toNat = n := by simp; omega
theorem tkB_eq (t : TkV) (r : List UInt8) : tkB t ++ r = numB t.1.toNat 4 ++ (UInt8.ofNat t.2.length :: (t.2 ++ r)) := by
  unfold tkB
  rw [numB1]
  simp
theorem drop4 (f : Nat) (r : List UInt8) : (numB f 4 ++ r).drop 4 = r := by
  rw [List.drop_left' (numB_len _ _ (by omega))]
theorem dec1_ok {l r : List UInt8} {ts : List TkV} {t : TkV} (h : dec1 l ts = .ok (t, r)) : l = tkB t ++ r ∧ 1 ≤ t.2.length ∧ t.2.length ≤ 64 ∧ notUp ts t.1 = false := by
  unfold dec1 at h
  split at h
  · cases h
  rename_i h4
  split at h
  · cases h
  rename_i hu
  split at h
  · cases h
  rename_i n r' hr
  split at h
  · cases h
  rename_i hb
  split at h
  · cases h
  rename_i hs
  simp only [Except.ok.injEq, Prod.mk.injEq] at h
  obtain ⟨rfl, rfl⟩ := h
  rcases l with _ | ⟨x0, _ | ⟨x1, _ | ⟨x2, _ | ⟨x3, rest⟩⟩⟩⟩
  · simp at h4
  · simp at h4
  · simp at h4
  · simp at h4
  have hr' : rest = n :: r' := hr
  subst hr'
  have hl : (r'.take n.toNat).length = n.toNat := by rw [List.length_take]; omega
  refine ⟨?_, by show 1 ≤ (r'.take n.toNat).length; omega, by show (r'.take n.toNat).length ≤ 64; omega, by simpa using hu⟩
  rw [tkB_eq]
  show _ = numB (feeOf _).toNat 4 ++ (UInt8.ofNat (r'.take n.toNat).length :: (r'.take n.toNat ++ r'.drop n.toNat))
  rw [fee_bytes, hl, List.take_append_drop]
  have : UInt8.ofNat n.toNat = n := by simp
  rw [this]
  rfl
theorem dec1_mk {ts : List TkV} {t : TkV} (r : List UInt8) (h1 : 1 ≤ t.2.length) (h2 : t.2.length ≤ 64) (hu : notUp ts t.1 = false) : dec1 (tkB t ++ r) ts = .ok (t, r) := by
  rw [tkB_eq]
  unfold dec1
  rw [if_neg (by rw [List.length_append, numB_len _ _ (by omega)]; omega), fee_of_bytes, hu, if_neg (by simp), drop4]
  dsimp only
  rw [ofNat_len h2, if_neg (by omega), if_neg (by rw [List.length_append]; omega), List.take_left, List.drop_left]
/-- bytes that end too early -/
theorem dec1_cut {ts : List TkV} {t : TkV} {l s : List UInt8} (h1 : 1 ≤ t.2.length) (h2 : t.2.length ≤ 64) (hu : notUp ts t.1 = false) (hl : l ++ s = tkB t) (hs : s ≠ []) : dec1 l ts = .error 2 := by
  have hs0 : 0 < s.length := List.length_pos_iff.2 hs
  have e0 := tkB_eq t []
  rw [List.append_nil, List.append_nil, ← hl] at e0
  have hlen := congrArg List.length e0
  rw [List.length_append, List.length_append, numB_len _ _ (by omega), List.length_cons] at hlen
  unfold dec1
  by_cases h4 : l.length < 4
  · rw [if_pos h4]
  rw [if_neg h4]
  have ht : l.take 4 = numB t.1.toNat 4 := by
    have := congrArg (List.take 4) e0
    rwa [List.take_append_of_le_length (by omega), List.take_left' (numB_len _ _ (by omega))] at this
  have hd : l.drop 4 ++ s = UInt8.ofNat t.2.length :: t.2 := by
    have := congrArg (List.drop 4) e0
    rwa [List.drop_append_of_le_length (by omega), drop4] at this
  have hfee : feeOf l = t.1 := by
    have h5 : l = numB t.1.toNat 4 ++ l.drop 4 := by rw [← ht, List.take_append_drop]
    rw [h5, fee_of_bytes]
  rw [hfee, hu, if_neg (by simp)]
  rcases hc : l.drop 4 with _ | ⟨n, r'⟩
  · rfl
  · rw [hc] at hd
    injection hd with hn hr
    dsimp only
    have hr2 : (r' ++ s).length = t.2.length := congrArg List.length hr
    rw [List.length_append] at hr2
    rw [hn, ofNat_len h2, if_neg (by omega), if_pos (by omega)]
/-- tiers that may be -/
def allOk (ts : List TkV) : Prop := ∀ (i : Nat) t, ts[i]? = some t → (1 ≤ t.2.length ∧ t.2.length ≤ 64) ∧ ∀ (k : Nat) s, i = k + 1 → ts[k]? = some s → s.1.toNat < t.1.toNat
theorem notUp_iff {ts : List TkV} {f : UInt32} : notUp ts f = false ↔ ∀ (k : Nat) s, ts.length = k + 1 → ts[k]? = some s → s.1.toNat < f.toNat := by
  unfold notUp
  rw [List.getLast?_eq_getElem?]
  constructor
  · intro h k s hk hs
    rw [hk, Nat.add_sub_cancel, hs] at h
    simpa using h
  · intro h
    split
    · rename_i v hv
      have hlt := (List.getElem?_eq_some_iff.1 hv).1
      have := h (ts.length - 1) v (by omega) hv
      simpa using this
    · rfl
theorem allOk_snoc {ts : List TkV} {t : TkV} : allOk (ts ++ [t]) ↔ allOk ts ∧ (1 ≤ t.2.length ∧ t.2.length ≤ 64) ∧ notUp ts t.1 = false := by
  rw [notUp_iff]
  constructor
  · intro h
    refine ⟨fun i u hu => ?_, ?_, fun k s hk hs => ?_⟩
    · have hi := (List.getElem?_eq_some_iff.1 hu).1
      obtain ⟨h1, h2⟩ := h i u (by rw [List.getElem?_append_left hi]; exact hu)
      refine ⟨h1, fun k s hk hs => h2 k s hk ?_⟩
      rw [List.getElem?_append_left (by omega)]
      exact hs
    · exact (h ts.length t (by simp)).1
    · have hi := (List.getElem?_eq_some_iff.1 hs).1
      exact (h ts.length t (by simp)).2 k s hk (by rw [List.getElem?_append_left hi]; exact hs)
  · rintro ⟨h1, h2, h3⟩ i u hu
    by_cases hi : i < ts.length
    · rw [List.getElem?_append_left hi] at hu
      obtain ⟨g1, g2⟩ := h1 i u hu
      refine ⟨g1, fun k s hk hs => g2 k s hk ?_⟩
      rwa [List.getElem?_append_left (by omega)] at hs
    · have hl := (List.getElem?_eq_some_iff.1 hu).1
      rw [List.length_append, List.length_singleton] at hl
      have hi2 : i = ts.length := by omega
      subst hi2
      simp at hu
      subst hu
      refine ⟨h2, fun k s hk hs => h3 k s hk ?_⟩
      rwa [List.getElem?_append_left (by omega)] at hs
theorem allOk_nil : allOk [] := fun i t h => by simp at h
theorem allOk_left {ts us : List TkV} (h : allOk (ts ++ us)) : allOk ts := fun i t ht => by
  have hi := (List.getElem?_eq_some_iff.1 ht).1
  obtain ⟨h1, h2⟩ := h i t (by rw [List.getElem?_append_left hi]; exact ht)
  exact ⟨h1, fun k s hk hs => h2 k s hk (by rw [List.getElem?_append_left (by omega)]; exact hs)⟩
theorem decA_ok : ∀ (k : Nat) {l rest : List UInt8} {ts ts' : List TkV}, allOk ts → decA k l ts = .ok (ts', rest) → allOk ts' ∧ ts'.length = ts.length + k ∧ ts.flatMap tkB ++ l = ts'.flatMap tkB ++ rest
  | 0, l, rest, ts, ts', ha, h => by
    simp only [decA, Except.ok.injEq, Prod.mk.injEq] at h
    obtain ⟨rfl, rfl⟩ := h
    exact ⟨ha, rfl, rfl⟩
  | k + 1, l, rest, ts, ts', ha, h => by
    unfold decA at h
    split at h
    · cases h
    · rename_i t r hd
      obtain ⟨h1, h2, h3, h4⟩ := dec1_ok hd
      obtain ⟨g1, g2, g3⟩ := decA_ok k (allOk_snoc.2 ⟨ha, ⟨h2, h3⟩, h4⟩) h
      refine ⟨g1, by rw [g2, List.length_append]; simp; omega, ?_⟩
      rw [← g3, h1]
      simp
theorem decA_mk : ∀ (us : List TkV) {ts : List TkV} (r : List UInt8), allOk (ts ++ us) → decA us.length (us.flatMap tkB ++ r) ts = .ok (ts ++ us, r)
  | [], ts, r, _ => by simp [decA]
  | t :: us, ts, r, h => by
    have h1 : allOk ((ts ++ [t]) ++ us) := by simpa using h
    obtain ⟨_, h2, h3⟩ := allOk_snoc.1 (allOk_left h1)
    have ih := decA_mk us r h1
    rw [List.length_cons, List.flatMap_cons, List.append_assoc]
    unfold decA
    rw [dec1_mk _ h2.1 h2.2 h3]
    dsimp only
    rw [ih]
    simp
theorem decA_cut : ∀ (us : List TkV) {ts : List TkV} {l s : List UInt8}, allOk (ts ++ us) → l ++ s = us.flatMap tkB → s ≠ [] → decA us.length l ts = .error 2
  | [], ts, l, s, _, hl, hs => by
    simp at hl
    exact (hs hl.2).elim
  | t :: us, ts, l, s, h, hl, hs => by
    have h1 : allOk ((ts ++ [t]) ++ us) := by simpa using h
    obtain ⟨_, h2, h3⟩ := allOk_snoc.1 (allOk_left h1)
    rw [List.flatMap_cons] at hl
    rw [List.length_cons]
    unfold decA
    rcases List.append_eq_append_iff.1 hl with ⟨a, ha, hb⟩ | ⟨a, ha, hb⟩
    · -- the bytes end within the first
      by_cases ha0 : a = []
      · subst ha0
        rw [List.append_nil] at ha
        have hd := dec1_mk (ts := ts) (t := t) [] h2.1 h2.2 h3
        rw [List.append_nil] at hd
        rw [← ha, hd]
        dsimp only
        exact decA_cut us h1 (l := []) (s := s) (by simpa using hb) hs
      · rw [dec1_cut h2.1 h2.2 h3 ha.symm ha0]
    · rw [ha, dec1_mk _ h2.1 h2.2 h3]
      dsimp only
      exact decA_cut us h1 hb.symm hs
theorem rightP_iff {p : Payload} : rightP p = true ↔ (1 ≤ p.l.length ∧ p.l.length ≤ 8) ∧ allOk (p.l.map tk) := by
  unfold rightP allOk
  rw [Bool.and_eq_true, List.all_eq_true, decide_eq_true_eq]
  refine and_congr Iff.rfl ⟨fun h i u hu => ?_, fun h i hi => ?_⟩
  · rw [List.getElem?_map] at hu
    obtain ⟨t, ht, rfl⟩ := Option.map_eq_some_iff.1 hu
    have h1 := h i (List.mem_range.2 (List.getElem?_eq_some_iff.1 ht).1)
    unfold tierOk at h1
    rw [ht] at h1
    simp only [Bool.and_eq_true, decide_eq_true_eq] at h1
    refine ⟨h1.1, fun k s hk hs => ?_⟩
    rw [List.getElem?_map] at hs
    obtain ⟨y, hy, rfl⟩ := Option.map_eq_some_iff.1 hs
    subst hk
    have h2 := h1.2
    dsimp only at h2
    rw [hy] at h2
    exact of_decide_eq_true h2
  · have hlt := List.mem_range.1 hi
    have ht := List.getElem?_eq_getElem hlt
    obtain ⟨h1, h2⟩ := h i (tk p.l[i]) (by rw [List.getElem?_map, ht]; rfl)
    unfold tierOk
    rw [ht]
    dsimp only
    rw [Bool.and_eq_true, decide_eq_true_eq]
    refine ⟨h1, ?_⟩
    cases i with
    | zero => rfl
    | succ k =>
      dsimp only
      have hk := List.getElem?_eq_getElem (show k < p.l.length by omega)
      rw [hk]
      exact decide_eq_true (h2 k (tk p.l[k]) rfl (by rw [List.getElem?_map, hk]; rfl))
theorem dec_ok {l : List UInt8} {p : Payload} (h : (dec l).2 = 0) (hp : p.l.map tk = (dec l).1) : rightP p = true ∧ bytesP p.l = l := by
  rw [rightP_iff, bytesP_tk, hp]
  have hlen : p.l.length = (dec l).1.length := by rw [← hp, List.length_map]
  rw [hlen]
  rcases l with _ | ⟨m, r⟩
  · simp [dec] at h
  · have e : dec (m :: r) = if m.toNat < 1 ∨ 8 < m.toNat then ([], 4) else decE (decA m.toNat r []) := rfl
    rw [e] at h ⊢
    by_cases hm : m.toNat < 1 ∨ 8 < m.toNat
    · rw [if_pos hm] at h; cases h
    · rw [if_neg hm] at h ⊢
      unfold decE at h ⊢
      rcases hd : decA m.toNat r [] with e | ⟨ts, rest⟩
      · rw [hd] at h
        dsimp only at h
        subst h
        exfalso
        have key : ∀ (k : Nat) (l : List UInt8) (ts : List TkV), decA k l ts ≠ .error 0 := by
          intro k
          induction k with
          | zero => intro l ts hh; simp [decA] at hh
          | succ k ih =>
            intro l ts hh
            unfold decA at hh
            split at hh
            · rename_i e he
              simp at hh
              subst hh
              unfold dec1 at he
              repeat' split at he
              all_goals simp at he
            · exact ih _ _ hh
        exact key _ _ _ hd
      · rw [hd] at h
        dsimp only at h ⊢
        by_cases hr : rest = []
        · rw [if_pos hr]
          obtain ⟨g1, g2, g3⟩ := decA_ok _ allOk_nil hd
          subst hr
          simp only [List.length_nil, Nat.zero_add] at g2
          dsimp only
          refine ⟨⟨by omega, g1⟩, ?_⟩
          rw [g2, numB1]
          have : UInt8.ofNat m.toNat = m := by simp
          rw [this]
          simpa using g3.symm
        · rw [if_neg hr] at h; cases h
theorem dec_bytes {p : Payload} (h : rightP p = true) : dec (bytesP p.l) = (p.l.map tk, 0) := by
  obtain ⟨⟨h1, h2⟩, h3⟩ := rightP_iff.1 h
  rw [bytesP_tk, numB1]
  show dec (UInt8.ofNat p.l.length :: (p.l.map tk).flatMap tkB) = _
  unfold dec
  dsimp only
  rw [ofNat_len (by omega), if_neg (by omega)]
  have hd := decA_mk (p.l.map tk) (ts := []) [] (by simpa using h3)
  rw [List.length_map, List.append_nil] at hd
  rw [hd]
  rfl
theorem dec_more {p : Payload} (h : rightP p = true) (x : UInt8) : dec (bytesP p.l ++ [x]) = ([], 3) := by
  obtain ⟨⟨h1, h2⟩, h3⟩ := rightP_iff.1 h
  rw [bytesP_tk, numB1]
  show dec (UInt8.ofNat p.l.length :: ((p.l.map tk).flatMap tkB ++ [x])) = _
  unfold dec
  dsimp only
  rw [ofNat_len (by omega), if_neg (by omega)]
  have hd := decA_mk (p.l.map tk) (ts := []) [x] (by simpa using h3)
  rw [List.length_map] at hd
  rw [hd]
  rfl
theorem dec_less {p : Payload} (h : rightP p = true) {l : List UInt8} {x : UInt8} (hl : l ++ [x] = bytesP p.l) : dec l = ([], 2) := by
  obtain ⟨⟨h1, h2⟩, h3⟩ := rightP_iff.1 h
  rw [bytesP_tk, numB1] at hl
  rcases l with _ | ⟨m, r⟩
  · rfl
  · injection hl with hm hr
    subst hm
    unfold dec
    dsimp only
    rw [ofNat_len (by omega), if_neg (by omega)]
    have hd := decA_cut (p.l.map tk) (ts := []) (l := r) (s := [x]) (by simpa using h3) hr (by simp)
    rw [List.length_map] at hd
    rw [hd]
    rfl
end Go.Proofs.YtcfbdajanjbghaaDoor
