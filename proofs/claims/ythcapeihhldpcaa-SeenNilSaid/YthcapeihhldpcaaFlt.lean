/- Flt: what a loop has filtered so far. No program in sight. -/
import Derived.Test.YthcapeihhldpcaaMet
import Derived.Test.YthcapeihhldpcaaSlice
namespace Go.Proofs.Ythcapeihhldpcaa
set_option linter.unusedSimpArgs false
set_option linter.unusedVariables false
open Go.RowKit

theorem take_filter {α : Type} {L : List α} {f : α → Bool} {i : Nat} {x : α} (h : L[i]? = some x) : (L.take (i + 1)).filter f = (L.take i).filter f ++ (if f x = true then [x] else []) := by
  rw [List.take_add_one, h, List.filter_append]
  congr 1
  by_cases hf : f x = true
  · rw [if_pos hf]; exact List.filter_cons_of_pos hf
  · rw [if_neg hf]; exact List.filter_cons_of_neg hf
theorem filter_take_le {α : Type} {L : List α} {f : α → Bool} {i : Nat} : ((L.take i).filter f).length ≤ i := Nat.le_trans (List.length_filter_le _ _) (by rw [List.length_take]; omega)
theorem Hp.nilRow {ν : Type} {S : Nat → Prop} {w0 w : World} {rs : List Res} (h : Hp S w0 w rs) (et : TypeId) (sz : Nat) (vc : ν → List Value) : Hp S w0 w (rowR et sz vc (Sl.nil : Sl ν) :: rs) :=
  h.new (Chg.refl _ _) (rowR_ok.2 ⟨World.ownsRow_nil w 0 _ _, by simp [Sl.nil]⟩) fun b hb => by have h1 := rowR_dom.1 hb; cases h1
theorem lp_share {B : Env → World → (Env → World → Prop) → Prop} {G : Prop} (I : Env → World → Prop) (main : (∀ e w, I e w → Lp B e w) → G) (tail : ∀ e w, I e w → Lp B e w) : G := main tail
/-- some of the resources, by their places -/
theorem Hp.pick {S : Nat → Prop} {w0 w : World} {rs rs' : List Res} (h : Hp S w0 w rs) (js : List Nat) (hn : js.Nodup) (he : js.map (fun j => rs[j]?) = rs'.map some) : Hp S w0 w rs' := by
  have hl : js.length = rs'.length := by have := congrArg List.length he; simpa using this
  have hat : ∀ a (ha : a < rs'.length), rs[js[a]'(by omega)]? = some rs'[a] := fun a ha => by
    have h1 : (js.map (fun j => rs[j]?))[a]? = (rs'.map some)[a]? := by rw [he]
    rw [List.getElem?_map, List.getElem?_map, List.getElem?_eq_getElem (show a < js.length by omega), List.getElem?_eq_getElem ha] at h1
    exact Option.some.inj h1
  have hm : ∀ r ∈ rs', r ∈ rs := fun r hr => by
    obtain ⟨a, ha, rfl⟩ := List.getElem_of_mem hr
    exact List.mem_of_getElem? (hat a ha)
  refine ⟨h.chg, fun r hr => h.ok r (hm r hr), List.pairwise_iff_getElem.2 fun a b la lb hab x hx hx' => ?_, fun r hr => h.own r (hm r hr)⟩
  have h1 := hat a la
  have h2 := hat b lb
  have hne : js[a]'(by omega) ≠ js[b]'(by omega) := fun e => by
    have := (List.getElem_inj hn).1 e
    omega
  obtain ⟨l1, e1⟩ := List.getElem?_eq_some_iff.1 h1
  obtain ⟨l2, e2⟩ := List.getElem?_eq_some_iff.1 h2
  have hs := List.pairwise_iff_getElem.1 h.sep
  rcases Nat.lt_or_gt_of_ne hne with h3 | h3
  · exact hs _ _ l1 l2 h3 x (by rw [e1]; exact hx) (by rw [e2]; exact hx')
  · exact hs _ _ l2 l1 h3 x (by rw [e2]; exact hx') (by rw [e1]; exact hx)
end Go.Proofs.Ythcapeihhldpcaa
