/- TipsP: ids in order; the tips of blocks. No program in sight. -/
import Derived.Test.YthcapeihhldpcaaLine
import Derived.Test.YthcapeihhldpcaaFlt
import Derived.Lib.Bytealg
namespace Go.Proofs.Ythcapeihhldpcaa
set_option linter.unusedSimpArgs false
set_option linter.unusedVariables false
open Go.RowKit
set_option maxRecDepth 100000
set_option maxHeartbeats 2000000

theorem cb_cons (x y : UInt8) (a b : List UInt8) : Lib.compareBytes (x :: a) (y :: b) = if x < y then -1 else if y < x then 1 else Lib.compareBytes a b := rfl
theorem cb_nc (x : UInt8) (a : List UInt8) : Lib.compareBytes [] (x :: a) = -1 := rfl
theorem cb_cn (x : UInt8) (a : List UInt8) : Lib.compareBytes (x :: a) [] = 1 := rfl
theorem cb_refl : ∀ a : List UInt8, Lib.compareBytes a a = 0
  | [] => rfl
  | x :: a => by rw [cb_cons, if_neg (UInt8.lt_irrefl x), if_neg (UInt8.lt_irrefl x)]; exact cb_refl a
theorem cb_cases : ∀ a b : List UInt8, Lib.compareBytes a b = -1 ∨ Lib.compareBytes a b = 0 ∨ Lib.compareBytes a b = 1
  | [], [] => .inr (.inl rfl)
  | [], _ :: _ => .inl rfl
  | _ :: _, [] => .inr (.inr rfl)
  | x :: a, y :: b => by
    rw [cb_cons]
    split
    · exact .inl rfl
    · split
      · exact .inr (.inr rfl)
      · exact cb_cases a b
theorem cb_eq : ∀ {a b : List UInt8}, Lib.compareBytes a b = 0 → a = b
  | [], [], _ => rfl
  | [], _ :: _, h => by cases h
  | _ :: _, [], h => by cases h
  | x :: a, y :: b, h => by
    rw [cb_cons] at h
    split at h
    · cases h
    · split at h
      · cases h
      · rename_i h1 h2
        have : x = y := UInt8.le_antisymm (UInt8.not_lt.1 h2) (UInt8.not_lt.1 h1)
        rw [this, cb_eq h]
theorem cb_anti : ∀ a b : List UInt8, Lib.compareBytes b a = - Lib.compareBytes a b
  | [], [] => rfl
  | [], _ :: _ => rfl
  | _ :: _, [] => rfl
  | x :: a, y :: b => by
    rw [cb_cons, cb_cons]
    by_cases h1 : x < y
    · rw [if_pos h1, if_neg (UInt8.lt_asymm h1), if_pos h1]; rfl
    · by_cases h2 : y < x
      · rw [if_pos h2, if_neg h1, if_pos h2]
      · rw [if_neg h2, if_neg h1, if_neg h1, if_neg h2]; exact cb_anti a b
theorem cb_trans : ∀ {a b c : List UInt8}, Lib.compareBytes a b < 0 → Lib.compareBytes b c < 0 → Lib.compareBytes a c < 0
  | [], [], _, h, _ => by exact absurd h (by decide)
  | [], _ :: _, [], _, h => by rw [cb_cn] at h; omega
  | [], _ :: _, _ :: _, _, _ => by rw [cb_nc]; omega
  | _ :: _, [], _, h, _ => by rw [cb_cn] at h; omega
  | _ :: _, _ :: _, [], _, h => by rw [cb_cn] at h; omega
  | x :: a, y :: b, z :: c, h1, h2 => by
    rw [cb_cons] at h1 h2 ⊢
    by_cases hxy : x < y
    · by_cases hyz : y < z
      · rw [if_pos (UInt8.lt_trans hxy hyz)]; decide
      · rw [if_neg hyz] at h2
        by_cases hzy : z < y
        · rw [if_pos hzy] at h2; exact absurd h2 (by decide)
        · have : y = z := UInt8.le_antisymm (UInt8.not_lt.1 hzy) (UInt8.not_lt.1 hyz)
          rw [if_pos (this ▸ hxy)]; decide
    · rw [if_neg hxy] at h1
      by_cases hyx : y < x
      · rw [if_pos hyx] at h1; exact absurd h1 (by decide)
      · have hxe : x = y := UInt8.le_antisymm (UInt8.not_lt.1 hyx) (UInt8.not_lt.1 hxy)
        rw [if_neg hyx] at h1
        subst hxe
        by_cases hyz : x < z
        · rw [if_pos hyz]; decide
        · rw [if_neg hyz] at h2 ⊢
          by_cases hzy : z < x
          · rw [if_pos hzy] at h2; exact absurd h2 (by decide)
          · rw [if_neg hzy] at h2 ⊢
            exact cb_trans h1 h2
theorem cb_app : ∀ (p a b : List UInt8), Lib.compareBytes (p ++ a) (p ++ b) = Lib.compareBytes a b
  | [], _, _ => rfl
  | x :: p, a, b => by
    rw [List.cons_append, List.cons_append, cb_cons, if_neg (UInt8.lt_irrefl x), if_neg (UInt8.lt_irrefl x)]
    exact cb_app p a b
def cmpId (a b : Id) : Int := Lib.compareBytes a.toList b.toList
def idLt (a b : Id) : Bool := decide (cmpId a b < 0)
theorem idLt_irrefl (a : Id) : idLt a a = false := by simp [idLt, cmpId, cb_refl]
theorem idLt_trans {a b c : Id} (h1 : idLt a b = true) (h2 : idLt b c = true) : idLt a c = true := by
  unfold idLt cmpId at *
  exact decide_eq_true (cb_trans (of_decide_eq_true h1) (of_decide_eq_true h2))
theorem idLt_total {a b : Id} (h1 : idLt a b = false) (h2 : idLt b a = false) : a = b := by
  unfold idLt cmpId at *
  replace h1 := of_decide_eq_false h1
  replace h2 := of_decide_eq_false h2
  have h3 := cb_anti a.toList b.toList
  have h4 : Lib.compareBytes a.toList b.toList = 0 := by omega
  exact Vector.toList_inj.1 (cb_eq h4)
theorem idLt_asymm {a b : Id} (h : idLt a b = true) : idLt b a = false := by
  cases hb : idLt b a with
  | false => rfl
  | true =>
    have := idLt_trans h hb
    rw [idLt_irrefl] at this
    cases this
theorem idLt_ntrans {a b c : Id} (h1 : idLt a b = false) (h2 : idLt b c = false) : idLt a c = false := by
  cases h3 : idLt a c with
  | false => rfl
  | true =>
    cases h4 : idLt b a with
    | true => rw [idLt_trans h4 h3] at h2; cases h2
    | false =>
      have := idLt_total h1 h4
      subst this
      rw [h3] at h2
      cases h2
/-- less, byte by byte -/
theorem idLt_at {a b : Id} {i : Nat} (hi : i < 32) (h : a.toList.take i = b.toList.take i) : (a[i] ≠ b[i] → idLt a b = decide (a[i] < b[i])) := fun hne => by
  have ea : a.toList = a.toList.take i ++ a[i] :: a.toList.drop (i + 1) := by
    conv => lhs; rw [← List.take_append_drop i a.toList]
    rw [List.drop_eq_getElem_cons (by simpa using hi)]
    simp
  have eb : b.toList = b.toList.take i ++ b[i] :: b.toList.drop (i + 1) := by
    conv => lhs; rw [← List.take_append_drop i b.toList]
    rw [List.drop_eq_getElem_cons (by simpa using hi)]
    simp
  unfold idLt cmpId
  rw [ea, eb, h, cb_app, cb_cons]
  by_cases h1 : a[i] < b[i]
  · rw [if_pos h1, decide_eq_true h1]; rfl
  · have h2 : b[i] < a[i] := by
      rcases UInt8.lt_or_lt_of_ne hne with h3 | h3
      · exact absurd h3 h1
      · exact h3
    rw [if_neg h1, if_pos h2, decide_eq_false h1]; rfl
/-- in order, once each -/
theorem ids_eq {l l' : List Id} (hp : l.Perm l') (h1 : l.Pairwise fun x y => idLt y x = false) (h2 : l'.Pairwise fun x y => idLt y x = false) : l = l' :=
  List.Perm.eq_of_pairwise (le := fun x y => idLt y x = false) (fun _ _ _ _ h3 h4 => idLt_total h4 h3) h1 h2 hp
/-- put in by a place -/
theorem put_sorted {o : List Id} {h : Id} {a : Nat} (hs : o.Pairwise fun x y => idLt y x = false) (h1 : ∀ y ∈ o.take a, idLt y h = true) (h2 : ∀ y, o[a]? = some y → idLt y h = false) : (o.take a ++ [h] ++ o.drop a).Pairwise fun x y => idLt y x = false := by
  have hsp : (o.take a ++ o.drop a).Pairwise fun x y => idLt y x = false := by rw [List.take_append_drop]; exact hs
  obtain ⟨ha, hd, hc⟩ := List.pairwise_append.1 hsp
  have hdr : ∀ y ∈ o.drop a, idLt y h = false := fun y hy => by
    cases hda : o.drop a with
    | nil => rw [hda] at hy; cases hy
    | cons z r =>
      have hz : o[a]? = some z := by
        have : (o.drop a)[0]? = some z := by rw [hda]; rfl
        rwa [List.getElem?_drop] at this
      have hzh := h2 z hz
      rw [hda] at hd hy
      rcases List.mem_cons.1 hy with rfl | hy
      · exact hzh
      · exact idLt_ntrans ((List.pairwise_cons.1 hd).1 y hy) hzh
  rw [List.append_assoc]
  refine List.pairwise_append.2 ⟨ha, List.pairwise_cons.2 ⟨hdr, hd⟩, fun x hx y hy => ?_⟩
  rcases List.mem_cons.1 hy with rfl | hy
  · exact idLt_asymm (h1 x hx)
  · exact hc x hx y hy
/-- the tips of blocks -/
def tipsB (bs : List Blk) : List Id := (bs.filter fun x => !decide (x.hash ∈ bs.map (·.parent))).map (·.hash)
theorem tips_rel {l : Ents} {bs : List Blk} (h : RelT l bs) : (l.filter fun p => !decide (p.1 ∈ l.map (·.2.parent))).map (·.1) = tipsB bs := by
  have e1 : l.map (fun p => (p.1, p.2.parent)) = bs.map (fun x => (x.hash, x.parent)) := by
    have := congrArg (List.map fun q : Id × Id × Id × List Id => (q.1, q.2.2.1)) h
    rwa [List.map_map, List.map_map] at this
  have e2 : l.map (·.2.parent) = bs.map (·.parent) := by
    have := congrArg (List.map Prod.snd) e1
    rwa [List.map_map, List.map_map] at this
  have e3 : ∀ P : List Id, (l.filter fun p => !decide (p.1 ∈ P)).map (·.1) = ((l.map fun p => (p.1, p.2.parent)).filter fun q => !decide (q.1 ∈ P)).map (·.1) := fun P => by
    rw [List.filter_map, List.map_map]; rfl
  have e4 : ∀ P : List Id, (bs.filter fun x => !decide (x.hash ∈ P)).map (·.hash) = ((bs.map fun x => (x.hash, x.parent)).filter fun q => !decide (q.1 ∈ P)).map (·.1) := fun P => by
    rw [List.filter_map, List.map_map]; rfl
  unfold tipsB
  rw [e3, e4, e1, e2]
end Go.Proofs.Ythcapeihhldpcaa
