/- Tab23d: the document's list of sessions beside a table: Grant, Use, what is found. No program in sight. -/
import Derived.Test.YtdncnepedkkamaaMSessionDoes21
namespace Go.Proofs.Ytdncnepedkkamaa
set_option linter.unusedSimpArgs false
set_option linter.unusedVariables false
open Go.RowKit
set_option maxRecDepth 100000
set_option maxHeartbeats 1000000
def fndI (W : List Sess) (id : UInt32) : Int := if (byId W id).isSome then (W.findIdx fun s => decide (s.id = id) : Nat) else -1
theorem fnd_cases (W : List Sess) (id : UInt32) : (∃ i x, W[i]? = some x ∧ x.id = id ∧ (∀ y ∈ W.take i, y.id ≠ id) ∧ byId W id = some x ∧ fndI W id = (i : Nat)) ∨ ((∀ y ∈ W, y.id ≠ id) ∧ byId W id = none ∧ fndI W id = -1) := by
  cases hb : byId W id with
  | none => exact .inr ⟨byId_none hb, rfl, by unfold fndI; rw [hb]; rfl⟩
  | some x =>
    obtain ⟨h1, h2⟩ := byId_mem hb
    have hlt : (W.findIdx fun s => decide (s.id = id)) < W.length := List.findIdx_lt_length.2 ⟨x, h1, by simpa using h2⟩
    have hge : decide ((W[W.findIdx fun s => decide (s.id = id)]).id = id) = true := List.findIdx_getElem (w := hlt)
    have hall : ∀ y ∈ W.take (W.findIdx fun s => decide (s.id = id)), y.id ≠ id := fun y hy => by
      obtain ⟨j, hj, rfl⟩ := List.getElem_of_mem hy
      rw [List.length_take] at hj
      rw [List.getElem_take]
      have := List.not_of_lt_findIdx (p := fun s : Sess => decide (s.id = id)) (xs := W) (i := j) (by omega)
      simpa using this
    refine .inl ⟨_, _, List.getElem?_eq_getElem hlt, by simpa using hge, hall, ?_, by unfold fndI; rw [hb]; rfl⟩
    have hsp : W = W.take (W.findIdx fun s => decide (s.id = id)) ++ W[W.findIdx fun s => decide (s.id = id)] :: W.drop ((W.findIdx fun s => decide (s.id = id)) + 1) := by
      rw [List.getElem_cons_drop, List.take_append_drop]
    rw [← hb]
    unfold byId
    conv => lhs; rw [hsp]
    rw [List.find?_append, List.find?_eq_none.2 fun y hy => by simpa using hall y hy, List.find?_cons, hge]
    rfl
def mayO (o : Option Sess) (seq height : UInt32) : Nat :=
  if o.isSome = false then 12 else if (o.getD Sess.z).exp.toNat ≤ height.toNat then 13 else if seq.toNat ≠ (o.getD Sess.z).used.toNat then 14 else if (o.getD Sess.z).quota.toNat ≤ (o.getD Sess.z).used.toNat then 15 else 0
def grE (W : List Sess) (room : Int) (s : Sess) : Nat :=
  if s.quota.toNat < 1 ∨ 64 < s.quota.toNat ∨ s.quota.toNat < s.used.toNat then 1 else if (byId W s.id).isSome then 6 else if room ≤ W.length then 16 else 0
abbrev ltI (s x : Sess) : Bool := decide (x.id.toNat < s.id.toNat)
def insW (W : List Sess) (s : Sess) : List Sess := W.takeWhile (ltI s) ++ s :: W.dropWhile (ltI s)
def grW (W : List Sess) (room : Int) (s : Sess) : List Sess := if grE W room s = 0 then insW W s else W
abbrev upS (id : UInt32) (x' s : Sess) : Sess := if s.id = id then x' else s
abbrev incS (x : Sess) : Sess := { x with used := x.used + 1 }
def useW (W : List Sess) (id seq height : UInt32) : List Sess := if mayO (byId W id) seq height = 0 then W.map (upS id (incS ((byId W id).getD Sess.z))) else W
theorem set_up {W : List Sess} (ho : W.Pairwise fun x y => x.id.toNat < y.id.toNat) {i : Nat} {x x' : Sess} (hi : W[i]? = some x) : W.set i x' = W.map (upS x.id x') := by
  have hlt := (List.getElem?_eq_some_iff.1 hi).1
  refine List.ext_getElem (by simp) fun j h1 h2 => ?_
  rw [List.length_set] at h1
  rw [List.getElem_set, List.getElem_map]
  have hix : W[i] = x := (List.getElem?_eq_some_iff.1 hi).2
  by_cases hij : i = j
  · subst hij
    rw [if_pos rfl, hix]
    exact (if_pos rfl).symm
  · rw [if_neg hij]
    refine (if_neg fun he => ?_).symm
    have hlt2 : W[i].id.toNat < W[j].id.toNat ∨ W[j].id.toNat < W[i].id.toNat := by
      rcases Nat.lt_or_gt_of_ne hij with h3 | h3
      · exact .inl (List.pairwise_iff_getElem.1 ho i j hlt h1 h3)
      · exact .inr (List.pairwise_iff_getElem.1 ho j i h1 hlt h3)
    rw [he, hix] at hlt2
    omega
section
variable {l : List (UInt32 × Sess)} {W : List Sess}
theorem TbI.may (h : TbI l W) (id seq height : UInt32) : mayE l id seq height = mayO (byId W id) seq height := by rw [← h.look]; rfl
theorem TbI.gr (h : TbI l W) (room : Int) (s : Sess) : grantE l room s = grE W room s := by
  unfold grantE grE
  rw [h.look, h.len]
theorem insW_ord (h : W.Pairwise fun x y => x.id.toNat < y.id.toNat) {s : Sess} (hs : ∀ x ∈ W, x.id ≠ s.id) : (insW W s).Pairwise fun x y => x.id.toNat < y.id.toNat := by
  have h1 : ∀ x ∈ W.takeWhile (ltI s), x.id.toNat < s.id.toNat := fun x hx => by
    have := List.all_takeWhile (l := W) (p := ltI s)
    rw [List.all_eq_true] at this
    simpa using this x hx
  have h2 : ∀ x ∈ W.dropWhile (ltI s), s.id.toNat < x.id.toNat := by
    have hsub := (List.dropWhile_sublist (ltI s) : (W.dropWhile (ltI s)).Sublist W)
    have hpw := h.sublist hsub
    cases hd : W.dropWhile (ltI s) with
    | nil => intro x hx; cases hx
    | cons y D =>
      rw [hd] at hsub hpw
      have hy : s.id.toNat < y.id.toNat := by
        have h3 : ltI s y = false := by
          have := List.head_dropWhile_not (ltI s) (l := W) (by rw [hd]; simp)
          simpa [hd] using this
        have h4 : y.id.toNat ≠ s.id.toNat := fun he => hs y (hsub.subset (by simp)) (UInt32.toNat_inj.1 he)
        have h5 : ¬ y.id.toNat < s.id.toNat := by simpa using h3
        omega
      intro x hx
      rcases List.mem_cons.1 hx with rfl | hx
      · exact hy
      · exact Nat.lt_trans hy ((List.pairwise_cons.1 hpw).1 x hx)
  refine List.pairwise_append.2 ⟨h.sublist (List.takeWhile_sublist _), List.pairwise_cons.2 ⟨h2, h.sublist (List.dropWhile_sublist _)⟩, fun x hx y hy => ?_⟩
  rcases List.mem_cons.1 hy with rfl | hy
  · exact h1 x hx
  · exact Nat.lt_trans (h1 x hx) (h2 y hy)
theorem insW_perm (W : List Sess) (s : Sess) : (W ++ [s]).Perm (insW W s) := by
  have h1 : (W ++ [s]).Perm (s :: W) := List.perm_append_singleton _ _
  refine h1.trans ?_
  unfold insW
  refine .trans ?_ List.perm_middle.symm
  rw [List.takeWhile_append_dropWhile]
theorem TbI.grant (h : TbI l W) (room : Int) (s : Sess) : TbI (grantL l room s) (grW W room s) := by
  unfold grantL grW
  rw [h.gr]
  by_cases hg : grE W room s = 0
  · rw [if_pos hg, if_pos hg]
    have hb : byId W s.id = none := by
      cases hb : byId W s.id with
      | none => rfl
      | some x =>
        unfold grE at hg
        rw [hb] at hg
        split at hg
        · cases hg
        · simp at hg
    have hu : s.used.toNat ≤ s.quota.toNat := by
      unfold grE at hg
      split at hg
      · cases hg
      · omega
    have hn : s.id ∉ l.map (·.1) := fun hh => by
      obtain ⟨p, hp, he⟩ := List.mem_map.1 hh
      have hk := h.look s.id
      rw [hb] at hk
      exact lk_none hk p hp he
    have hm : mput l s.id s = l ++ [(s.id, s)] := by unfold mput; rw [if_neg hn]
    rw [hm]
    refine ⟨insW_ord h.ord (byId_none hb), ?_, fun p hp => ?_, fun x hx => ?_⟩
    · rw [List.map_append]
      exact (h.per.append_right _).trans (insW_perm W s)
    · rcases List.mem_append.1 hp with hp | hp
      · exact h.key p hp
      · simp at hp
        subst hp
        rfl
    · have := (insW_perm W s).mem_iff.2 hx
      rcases List.mem_append.1 this with hp | hp
      · exact h.used x hp
      · simp at hp
        subst hp
        exact hu
  · rw [if_neg hg, if_neg hg]
    exact h
theorem TbI.use (h : TbI l W) (id seq height : UInt32) : TbI (useL l id seq height) (useW W id seq height) := by
  unfold useL useW
  rw [h.may, h.look]
  by_cases hg : mayO (byId W id) seq height = 0
  · rw [if_pos hg, if_pos hg]
    cases hb : byId W id with
    | none => rw [hb] at hg; cases hg
    | some x =>
      obtain ⟨hx1, hx2⟩ := byId_mem hb
      show TbI (mput l id (incS x)) (W.map (upS id (incS x)))
      have hin : id ∈ l.map (·.1) := by
        have hk := h.look id
        rw [hb] at hk
        exact List.mem_map.2 ⟨_, lk_mem hk, rfl⟩
      have hm : mput l id (incS x) = l.map fun p => if p.1 = id then (id, incS x) else p := by unfold mput; rw [if_pos hin]
      rw [hm]
      have hid : ∀ s : Sess, (upS id (incS x) s).id = s.id := fun s => by
        unfold upS
        split
        · rename_i he
          rw [he]
          exact hx2
        · rfl
      refine ⟨?_, ?_, fun p hp => ?_, fun s hs => ?_⟩
      · rw [List.pairwise_map]
        exact h.ord.imp fun {a b} hab => by rw [hid, hid]; exact hab
      · have h1 : (l.map fun p => if p.1 = id then (id, incS x) else p).map (·.2) = (l.map (·.2)).map (upS id (incS x)) := by
          rw [List.map_map, List.map_map]
          refine List.map_congr_left fun p hp => ?_
          show (if p.1 = id then (id, incS x) else p).2 = upS id (incS x) p.2
          unfold upS
          rw [← h.key p hp]
          split <;> rfl
        rw [h1]
        exact h.per.map _
      · obtain ⟨q, hq, rfl⟩ := List.mem_map.1 hp
        split
        · exact hx2.symm
        · exact h.key q hq
      · obtain ⟨q, hq, rfl⟩ := List.mem_map.1 hs
        unfold upS
        split
        · rw [hb] at hg
          unfold mayO at hg
          simp only [Option.isSome_some, Option.getD_some] at hg
          have hu : x.used.toNat < x.quota.toNat := by
            by_cases h9 : x.quota.toNat ≤ x.used.toNat
            · rw [if_pos h9] at hg
              split at hg
              · cases hg
              · split at hg
                · cases hg
                · split at hg <;> cases hg
            · omega
          have hqt := x.quota.toNat_lt
          show (x.used + 1).toNat ≤ x.quota.toNat
          rw [UInt32.toNat_add]
          have : (1 : UInt32).toNat = 1 := rfl
          rw [this]
          omega
        · exact h.used q hq
  · rw [if_neg hg, if_neg hg]
    exact h
theorem useW_set (h : W.Pairwise fun x y => x.id.toNat < y.id.toNat) {id seq height : UInt32} {i : Nat} {x : Sess} (hi : W[i]? = some x) (hx : x.id = id) (hb : byId W id = some x) (hm : mayO (byId W id) seq height = 0) : W.set i (incS x) = useW W id seq height := by
  unfold useW
  rw [if_pos hm, hb, set_up h hi, hx]
  rfl
theorem end_some (W : List Sess) (id : UInt32) : decide ((W.filter fun s => decide (s.id ≠ id)).length < W.length) = (byId W id).isSome := by
  cases hb : byId W id with
  | none =>
    rw [List.filter_eq_self.2 fun s hs => by simpa using byId_none hb s hs]
    simp
  | some x =>
    obtain ⟨h1, h2⟩ := byId_mem hb
    have : (W.filter fun s => decide (s.id ≠ id)).length < W.length := List.length_filter_lt_length_iff_exists.2 ⟨x, h1, by simp [h2]⟩
    simpa using this
theorem useW_len (W : List Sess) (id seq height : UInt32) : (useW W id seq height).length = W.length := by
  unfold useW
  split
  · rw [List.length_map]
  · rfl
theorem grW_len (W : List Sess) (room : Int) (s : Sess) : (grW W room s).length ≤ W.length + 1 := by
  unfold grW
  split
  · rw [← (insW_perm W s).length_eq, List.length_append]
    exact Nat.le_refl _
  · omega
end
end Go.Proofs.Ytdncnepedkkamaa
