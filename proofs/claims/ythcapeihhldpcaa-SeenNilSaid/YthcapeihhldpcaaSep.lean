/- Sep: several resources as one; what a call may do to a resource. -/
import Derived.Test.YthcapeihhldpcaaTail
namespace Go.Proofs.Ythcapeihhldpcaa
set_option linter.unusedSimpArgs false
set_option linter.unusedVariables false
open Go.RowKit

/-- several as one -/
def star (rs : List Res) : Res where
  dom b := ∃ r ∈ rs, r.dom b
  ok w := (∀ r ∈ rs, r.ok w) ∧ rs.Pairwise (fun (r r' : Res) => ∀ (b : Nat), r.dom b → ¬ r'.dom b)
  lt w h b hb := by
    obtain ⟨r, hr, hb⟩ := hb
    exact r.lt w (h.1 r hr) b hb
  loc w w' h hk := ⟨fun r hr => r.loc w w' (fun b hb => h b ⟨r, hr, hb⟩) (hk.1 r hr), hk.2⟩
theorem star_dom {b : Nat} {rs : List Res} : (star rs).dom b ↔ ∃ r ∈ rs, r.dom b := Iff.rfl
theorem star_ok {w : World} {rs : List Res} : (star rs).ok w ↔ (∀ r ∈ rs, r.ok w) ∧ rs.Pairwise (fun (r r' : Res) => ∀ (b : Nat), r.dom b → ¬ r'.dom b) := Iff.rfl
/-- r became r', and nothing else that was there changed -/
structure Mut (r r' : Res) (w w' : World) : Prop where
  chg : Chg r.dom w w'
  ok : r'.ok w'
  dom : ∀ b, r'.dom b → r.dom b ∨ w.heap.size ≤ b
/-- r was made, and nothing that was there changed -/
structure Made (r : Res) (w w' : World) : Prop where
  chg : Chg N0 w w'
  ok : r.ok w'
  dom : ∀ b, r.dom b → w.heap.size ≤ b
section
variable {S : Nat → Prop} {w0 w w' : World} {rs rs' rs'' : List Res} {r r' : Res} {j : Nat}
theorem Hp.open (h : (star rs).ok w) : Hp (star rs).dom w w rs := ⟨Chg.refl _ _, h.1, h.2, fun r hr _ hb => .inl ⟨r, hr, hb⟩⟩
theorem Hp.shut (h : Hp (star rs).dom w w' rs') (hs : rs''.Sublist rs') : Mut (star rs) (star rs'') w w' := by
  have h := h.sub hs
  exact ⟨h.chg, ⟨h.ok, h.sep⟩, fun _ ⟨r, hr, hb⟩ => h.own r hr _ hb⟩
theorem Hp.shut1 (h : Hp r.dom w w' rs') (hj : rs'[j]? = some r') : Mut r r' w w' := ⟨h.chg, h.get hj, fun b hb => h.own r' (List.mem_of_getElem? hj) b hb⟩
theorem Hp.via (h : Hp S w0 w rs) (hj : rs[j]? = some r) (m : Mut r r' w w') : Hp S w0 w' (rs.set j r') := h.mut hj m.chg m.ok m.dom
theorem Hp.made (h : Hp N0 w w' rs') (hs : rs''.Sublist rs') : Made (star rs'') w w' := by
  have h := h.sub hs
  exact ⟨h.chg, ⟨h.ok, h.sep⟩, fun _ ⟨r, hr, hb⟩ => (h.own r hr _ hb).resolve_left fun h => h⟩
theorem Hp.made1 (h : Hp N0 w w' rs') (hj : rs'[j]? = some r') : Made r' w w' := ⟨h.chg, h.get hj, fun b hb => (h.own r' (List.mem_of_getElem? hj) b hb).resolve_left fun h => h⟩
theorem Hp.add (h : Hp S w0 w rs) (m : Made r w w') : Hp S w0 w' (r :: rs) := h.new m.chg m.ok m.dom
theorem Hp.perm (h : Hp S w0 w rs) (hs : rs.Perm rs') : Hp S w0 w rs' :=
  ⟨h.chg, fun r hr => h.ok r (hs.mem_iff.2 hr), h.sep.perm hs fun hxy b hb hb' => hxy b hb' hb, fun r hr => h.own r (hs.mem_iff.2 hr)⟩
theorem Hp.unfold (h : Hp S w0 w (star rs' :: rs)) : Hp S w0 w (rs' ++ rs) := by
  have h1 := h.ok _ (List.mem_cons_self ..)
  have h2 := List.pairwise_cons.1 h.sep
  refine ⟨h.chg, fun r hr => ?_, List.pairwise_append.2 ⟨h1.2, h2.2, fun r hr r' hr' b hb => h2.1 r' hr' b ⟨r, hr, hb⟩⟩, fun r hr b hb => ?_⟩
  · rcases List.mem_append.1 hr with hr | hr
    · exact h1.1 r hr
    · exact h.ok r (List.mem_cons_of_mem _ hr)
  · rcases List.mem_append.1 hr with hr | hr
    · exact h.own _ (List.mem_cons_self ..) b ⟨r, hr, hb⟩
    · exact h.own r (List.mem_cons_of_mem _ hr) b hb
theorem Hp.fold (n : Nat) (h : Hp S w0 w rs) : Hp S w0 w (star (rs.take n) :: rs.drop n) := by
  have h0 := List.take_append_drop n rs
  have h1 := List.pairwise_append.1 (h0.symm ▸ h.sep)
  refine ⟨h.chg, fun r hr => ?_, List.pairwise_cons.2 ⟨fun r' hr' b hb => ?_, h1.2.1⟩, fun r hr b hb => ?_⟩
  · rcases List.mem_cons.1 hr with rfl | hr
    · exact ⟨fun r hr => h.ok r (List.mem_of_mem_take hr), h1.1⟩
    · exact h.ok r (List.mem_of_mem_drop hr)
  · obtain ⟨r, hr, hb⟩ := hb
    exact h1.2.2 r hr r' hr' b hb
  · rcases List.mem_cons.1 hr with rfl | hr
    · obtain ⟨r, hr, hb⟩ := hb
      exact h.own r (List.mem_of_mem_take hr) b hb
    · exact h.own r (List.mem_of_mem_drop hr) b hb
theorem Mut.of0 (h : r.ok w) (hc : Chg N0 w w') : Mut r r w w' := ⟨hc.of0, r.keep0 h hc, fun _ hb => .inl hb⟩
end
/-- slots of an environment, all by evaluation -/
def holds : List (Nat × Value) → Env → Prop
  | [], _ => True
  | (d, v) :: r, e => e.f d = v ∧ holds r e
theorem eat_holds {e : Env} {l : List (Nat × Value)} (h : holds l e) : e = eat l e := by
  refine eat_of l e ?_
  induction l with
  | nil => simp
  | cons p r ih =>
    obtain ⟨h1, h2⟩ := h
    intro x hx
    rcases List.mem_cons.1 hx with rfl | hx
    · exact h1
    · exact ih h2 x hx
/-- a loop's invariant: some slots and a fact of the world, by a parameter that a measure brings down -/
def Inv {α : Type} (ds : List Nat) (vals : α → List (Nat × Value)) (I : α → World → Prop) (m : α → Nat) (e : Env) (w : World) (n : Nat) : Prop := ∃ a f0, e = eat (vals a) ⟨f0, ds⟩ ∧ n = m a ∧ I a w
theorem lp_invD (ds : List Nat) {body : Env → World → (Env → World → Prop) → Prop} {e : Env} {w : World} {α : Type} (vals : α → List (Nat × Value)) (I : α → World → Prop) (m : α → Nat) (a0 : α)
    (h0 : holds (vals a0) e) (hI : I a0 w) (h : ∀ a f0 w, I a w → body (eat (vals a) ⟨f0, ds⟩) w fun e' w' => ∃ n, n < m a ∧ Inv ds vals I m e' w' n) (hd : e.ds = ds := by rfl) : Lp body e w := by
  subst hd
  refine lp_of (Inv e.ds vals I m) ⟨m a0, a0, e.f, eat_holds h0, rfl, hI⟩ ?_
  rintro e' w n ⟨a, f0, rfl, rfl, hI⟩
  exact h a f0 w hI
theorem lp_inv {body : Env → World → (Env → World → Prop) → Prop} {e : Env} {w : World} {α : Type} (vals : α → List (Nat × Value)) (I : α → World → Prop) (m : α → Nat) (a0 : α)
    (h0 : holds (vals a0) e) (hI : I a0 w) (h : ∀ a f0 w, I a w → body (eat (vals a) ⟨f0, []⟩) w fun e' w' => ∃ n, n < m a ∧ Inv [] vals I m e' w' n) (hd : e.ds = [] := by rfl) : Lp body e w := lp_invD [] vals I m a0 h0 hI h hd
theorem lp_next {e : Env} {w : World} {α : Type} {ds : List Nat} {vals : α → List (Nat × Value)} {I : α → World → Prop} {m : α → Nat} {n : Nat} (a : α) (hm : m a < n) (h : holds (vals a) e) (hI : I a w) (hd : e.ds = ds := by rfl) : ∃ n', n' < n ∧ Inv ds vals I m e w n' := by
  subst hd
  exact ⟨m a, hm, a, e.f, eat_holds h, rfl, hI⟩
theorem ar_is {k : IntKind} {s : Int} {f : Int → Prop} (r : Int) (hr : k.wrap s = r) (h : f r) : Ar k s f := ⟨_, hr, h⟩
/-- arithmetic of 32 bits -/
theorem ar_u32add {f : Int → Prop} (x y : UInt32) (h : f ((x + y).toNat : Int)) : Ar .u32 (x.toNat + y.toNat) f := by
  refine ⟨_, ?_, h⟩
  simp [IntKind.wrap, IntKind.bits, IntKind.signed, UInt32.toNat_add]
theorem ar_u32inc {f : Int → Prop} (x : UInt32) (n : Nat) (hn : n < 4294967296) (h : f ((x + UInt32.ofNat n).toNat : Int)) : Ar .u32 (x.toNat + (n : Int)) f := by
  have hh := ar_u32add x (UInt32.ofNat n) h
  rwa [show (UInt32.ofNat n).toNat = n from by simp; omega] at hh
attribute [irreducible] star Inv
end Go.Proofs.Ythcapeihhldpcaa
