/- MImprintRests13: TailU, Range. -/
import Derived.Test.YteabebmlclgakaaGreatMImprintRests9
import Derived.Test.YteabebmlclgakaaGreatMImprintRestssSlice
import Derived.Maps.RangeRun
/- TailU: a region that draws its order, in which stores into what it has made may come before it has read all. No condition. -/
namespace Go.Proofs.YteabebmlclgakaaGreat
set_option linter.unusedSimpArgs false
set_option linter.unusedVariables false
open Go.RowKit
section
variable {P : Program} {ops : Array Oper} {Q : Exit → Act → World → Prop}
theorem He.world {P : Program} {ops : Array Oper} {ws : World} {C : Prop} {T : Act → Prop} : ∀ {hs : List Nat} {a : Act}, He P ops ws (fun a' => C ∧ T a') hs a → C
  | [], _, h => h.1
  | _ :: _, _, ⟨_, _, _, _, hr⟩ => He.world hr
theorem He.move {P : Program} {ops : Array Oper} {w1 w2 : World} {K : Act → Prop} : ∀ {hs : List Nat} {a : Act}, (∀ j ∈ hs, ∀ oj, ops[j]? = some oj → pOp oj.op = true) → He P ops w1 K hs a → He P ops w2 K hs a
  | [], _, _, h => h
  | j :: _, _, hp, ⟨o, v, ho, hy, hr⟩ => ⟨o, v, ho, hy.imp (fun ⟨h1, h2⟩ => ⟨h1, fun w' _ => pOp_run (hp j (by simp) o ho) (h2 w1 (Chg.refl _ _)) w'⟩) id, He.move (fun j' hj' => hp j' (by simp [hj'])) hr⟩
/-- an operation is taken before the heads, the heads read the world of the start -/
theorem He.allocU {ws w : World} (hsel : ∀ (j : Nat) (o : Oper) cs b, ops[j]? = some o → o.op ≠ .select cs b) (hP : ∀ c a w, ¬ Q (.panic c) a w) {i : Nat} {oi : Oper} (hi : ops[i]? = some oi) (T : Act → World → Prop) : ∀ (hs : List Nat) (a : Act),
    (∀ j ∈ hs, ∀ oj, ops[j]? = some oj → oj.apart ops oi = true) → He P ops ws (fun a' => wpOp P ops Q i (fun a1 w1 => a1.defers = a'.defers ∧ T a1 w1) a' w) hs a → wpOp P ops Q i (fun a1 w1 => a1.defers = a.defers ∧ He P ops ws (fun a' => T a' w1) hs a1) a w
  | [], _, _, h => h
  | j :: hs, a, hap, ⟨o, v, ho, hy, hr⟩ => by
    have ih := He.allocU hsel hP hi T hs _ (fun j' hj' => hap j' (by simp [hj'])) hr
    obtain ⟨h1, h2, h3⟩ := Oper.apart_spec (hap j (by simp) o ho)
    have fin : ∀ u w1, He P ops ws (fun a' => T a' w1) hs ((a.put o.dst v).put oi.dst u) → (a.put oi.dst u).defers = a.defers ∧ He P ops ws (fun a' => T a' w1) (j :: hs) (a.put oi.dst u) := fun u w1 hh =>
      ⟨put_defers _ _ _, o, v, ho, hy.put (fun cs b => hsel j o cs b ho) h3, by rw [← Act.put_comm a v u h2]; exact hh⟩
    unfold wpOp at ih ⊢
    simp only [hi] at ih ⊢
    rw [wanted_put oi a o.dst v h1] at ih
    split at ih
    · rename_i hw
      rw [if_pos hw]
      rcases ih with ih | ⟨hasks, hl⟩
      · refine .inl ?_
        unfold Oper.wp at ih ⊢
        rw [execOp_put oi (fun cs b => hsel i oi cs b hi) a o.dst v h1] at ih
        generalize (execOp a.eval oi).run P w = r at ih ⊢
        cases r with
        | ok nx w' =>
          cases nx <;> simp only [Oper.upon] at ih ⊢ <;> first
            | exact fin _ _ ih.2
            | (have h4 := ih.1
               simp at h4
               done)
            | exact Rows.mono ih fun u w'' he => fin _ _ he.2
            | (refine Calls.mono ih fun e w'' he => ?_
               cases e with
               | returned u => exact fin _ _ he.2
               | panicked c => exact (hP _ _ _ he).elim
               | outgrown => exact he)
        | halt x w' =>
          cases x <;> simp only [Oper.upon] at ih
          exact (hP _ _ _ ih).elim
      · refine .inr ⟨?_, hl⟩
        unfold Oper.asks at hasks ⊢
        rw [execOp_put oi (fun cs b => hsel i oi cs b hi) a o.dst v h1] at hasks
        exact hasks
    · rename_i hw
      rw [if_neg hw]
      exact fin undef w ih.2
/-- these operations, in whatever order; of what gf names it is shown that behind it nothing of the start has changed -/
def wpU (P : Program) (ops : Array Oper) (Q : Exit → Act → World → Prop) (gf : Nat → Bool) (ws : World) : Nat → List Nat → Act → World → Prop
  | 0, _, _, _ => False
  | _ + 1, [], a, w => Q .normal a w
  | fuel + 1, ts, a, w => ∀ i ∈ rdyT ops ts, wpOp P ops Q i (fun a1 w1 => (gf i = true → Chg N0 ws w1 ∧ a1.defers = a.defers) ∧ wpU P ops Q gf ws fuel (ts.filter fun j => !Nat.beq j i) a1 w1) a w
theorem mix_anyU {p gf : Nat → Bool} {b : Array Nat} (M : MixT ops p gf b) {ws : World} (hP : ∀ c a w, ¬ Q (.panic c) a w) : ∀ (fuel : Nat) (listed : Array Bool) (hs ts : List Nat) (k : Nat) (a : Act) (w : World),
    listed.size = ops.size → hs.length + ts.length ≤ fuel → hs.Pairwise (· < ·) → ts.Nodup → (∀ i, i < ops.size → (listed.getD i true = false ↔ i ∈ hs ∨ i ∈ ts)) → (∀ i ∈ hs, p i = true ∧ i < ops.size) → (∀ i ∈ ts, p i = false ∧ i < ops.size) →
    (∀ x y, listed.getD x false = true → x < ops.size → (b.getD x 0).testBit y = true → y < ops.size → listed.getD y false = true) →
    (Chg N0 ws w ∨ ∀ j ∈ hs, ∀ oj, ops[j]? = some oj → pOp oj.op = true) → He P ops ws (fun a' => wpU P ops Q gf ws k ts a' w) hs a → wpAny P .any ops Q fuel listed a w := by
  intro fuel
  induction fuel with
  | zero =>
    intro listed hs ts k a w hsz hf _ _ hun _ _ _ _ h
    obtain ⟨h1, h2⟩ : hs = [] ∧ ts = [] := by
      constructor <;> exact List.eq_nil_of_length_eq_zero (by omega)
    subst h1 h2
    have h : wpU P ops Q gf ws k [] a w := h
    refine ⟨?_, by cases k with | zero => exact h.elim | succ k => exact h⟩
    rw [List.eq_nil_iff_forall_not_mem]
    intro i hi
    obtain ⟨h0, o, ho, _⟩ := mem_ready.1 hi
    have := (hun i (Array.getElem?_eq_some_iff.1 ho).1).1 h0
    simp at this
  | succ fuel ih =>
    intro listed hs ts k a w hsz hf hpw hpt hun hhs hts hcl hinv h
    have hlist : ∀ i, i < ops.size → (listed.getD i true = false) → listed.getD i false = false := fun i hi h0 => getD_both h0
    refine ⟨fun hr => ?_, fun i hi => ?_⟩
    · -- nothing is ready: all is done
      have hempty : ∀ x, x ∉ hs ++ ts := by
        intro x hx
        have key : ∀ m x, x = m → x ∈ hs ++ ts → False := by
          intro m
          induction m using Nat.strongRecOn with
          | _ m ihm =>
            intro x hxm hx
            have hxl : x < ops.size := by
              rcases List.mem_append.1 hx with h1 | h1
              · exact (hhs x h1).2
              · exact (hts x h1).2
            have hxo : ops[x]? = some ops[x] := Array.getElem?_eq_getElem hxl
            have : x ∈ Region.ready .any ops listed := by
              refine mem_ready.2 ⟨(hun x hxl).2 (List.mem_append.1 hx), ops[x], hxo, fun e he hb => ?_⟩
              have hlt := M.back x _ hxo e he hb
              cases hle : listed.getD e.on false with
              | true => rfl
              | false =>
                have hel : e.on < ops.size := by omega
                have hun' : listed.getD e.on true = false := getD_in (by omega) hle
                exact (ihm e.on (by omega) e.on rfl (List.mem_append.2 ((hun e.on hel).1 hun'))).elim
            rw [hr] at this
            cases this
        exact key x x rfl hx
      have h1 : hs = [] := List.eq_nil_iff_forall_not_mem.2 fun x hx => hempty x (List.mem_append.2 (.inl hx))
      have h2 : ts = [] := List.eq_nil_iff_forall_not_mem.2 fun x hx => hempty x (List.mem_append.2 (.inr hx))
      subst h1 h2
      have h : wpU P ops Q gf ws k [] a w := h
      cases k with
      | zero => exact h.elim
      | succ k => exact h
    · obtain ⟨h0, oi, hoi, hall⟩ := mem_ready.1 hi
      have hil : i < ops.size := (Array.getElem?_eq_some_iff.1 hoi).1
      -- what i hangs on is listed
      have hdep : ∀ y, (b.getD i 0).testBit y = true → y < ops.size → listed.getD y false = true := fun y hy hys => by
        obtain ⟨e, he, hb, h1⟩ := M.dep i oi hoi y hy hys
        have h2 := hall e he hb
        rcases h1 with rfl | h1
        · exact h2
        · have := M.back i oi hoi e he hb
          exact hcl e.on y h2 (by omega) h1 hys
      have hcl' : ∀ x y, (listed.setIfInBounds i true).getD x false = true → x < ops.size → (b.getD x 0).testBit y = true → y < ops.size → (listed.setIfInBounds i true).getD y false = true := fun x y hx hxs hy hys => by
        by_cases hxi : i = x
        · subst hxi; exact getD_set_true (hdep y hy hys)
        · rw [getD_set_ne false hxi] at hx
          exact getD_set_true (hcl x y hx hxs hy hys)
      have hsz' : (listed.setIfInBounds i true).size = ops.size := by simp [hsz]
      have hset : ∀ x, x < ops.size → ((listed.setIfInBounds i true).getD x true = false ↔ listed.getD x true = false ∧ x ≠ i) := fun x hx => by
        by_cases hxi : i = x
        · subst hxi
          have : i < listed.size := by omega
          simp [this]
        · rw [getD_set_ne true hxi]
          exact ⟨fun h => ⟨h, fun e => hxi e.symm⟩, fun h => h.1⟩
      rcases (hun i hil).1 h0 with hm | hm
      · -- a head
        obtain ⟨pre, post, rfl⟩ := List.append_of_mem hm
        have hpw' := hpw
        rw [List.pairwise_append] at hpw'
        have hlt : ∀ j ∈ pre, j < i := fun j hj => hpw'.2.2 j hj i (by simp)
        have hap : ∀ j ∈ pre, ∀ oj, ops[j]? = some oj → oj.apart ops oi = true := fun j hj oj hoj => by
          rcases M.heads i j oi oj (hhs i hm).1 (hhs j (by simp [hj])).1 (hlt j hj) hoi hoj with ⟨e, he, hb, rfl⟩ | h1
          · have h2 := hall e he hb
            have h3 := (hun e.on (Array.getElem?_eq_some_iff.1 hoj).1).2 (.inl (by simp [hj]))
            rw [getD_both h3] at h2
            cases h2
          · exact h1
        obtain ⟨v, hy, hr⟩ := He.front M.sel hoi post pre a hap h
        have hinv' : Chg N0 ws w ∨ ∀ j ∈ pre ++ post, ∀ oj, ops[j]? = some oj → pOp oj.op = true := hinv.imp id fun h j hj => h j (by rcases List.mem_append.1 hj with h1 | h1 <;> simp [h1])
        have hK : wpAny P .any ops Q fuel (listed.setIfInBounds i true) (a.put oi.dst v) w := by
          have hsub : (pre ++ post).Sublist (pre ++ i :: post) := List.Sublist.append_left (List.sublist_cons_self _ _) _
          have hni : i ∉ pre ++ post ++ ts := by
            intro hx
            rcases List.mem_append.1 hx with h1 | h1
            · rcases List.mem_append.1 h1 with h1 | h1
              · have := hlt i h1; omega
              · have h2 := hpw'.2.1
                rw [List.pairwise_cons] at h2
                have := h2.1 i h1
                omega
            · have h2 := (hhs i hm).1
              rw [(hts i h1).1] at h2
              cases h2
          refine ih _ (pre ++ post) ts k _ w hsz' (by simp at hf ⊢; omega) (hpw.sublist hsub) hpt (fun x hx => ?_) (fun x hx => hhs x (by rcases List.mem_append.1 hx with h1 | h1 <;> simp [h1])) hts hcl' hinv' hr
          rw [hset x hx, hun x hx]
          constructor
          · rintro ⟨h1 | h1, h2⟩
            · left
              rcases List.mem_append.1 h1 with h3 | h3
              · simp [h3]
              · rcases List.mem_cons.1 h3 with h4 | h4
                · exact (h2 h4).elim
                · simp [h4]
            · exact .inr h1
          · intro h1
            refine ⟨h1.imp (fun h2 => by rcases List.mem_append.1 h2 with h3 | h3 <;> simp [h3]) id, fun e => ?_⟩
            subst e
            exact hni (List.mem_append.2 h1)
        unfold wpOp
        simp only [hoi]
        rcases hy with ⟨hw, hv⟩ | ⟨hw, rfl⟩
        · rw [if_pos hw]
          refine .inl ?_
          unfold Oper.wp
          have hvw : (execOp a.eval oi).run P w = .ok (.value v) w := by
            rcases hinv with hc | hpo
            · exact hv w hc
            · exact pOp_run (hpo i hm oi hoi) (hv ws (Chg.refl _ _)) w
          rw [hvw]
          exact hK
        · rw [if_neg (by rw [hw]; simp)]
          exact hK
      · -- one of the others
        obtain ⟨hni, _⟩ := hts i hm
        have hrd : i ∈ rdyT ops ts := List.mem_filter.2 ⟨hm, by
          rw [hoi]
          refine List.all_eq_true.2 fun e he => ?_
          cases hb : Region.binds .any e with
          | false => rfl
          | true =>
            have h1 := hall e (Array.mem_toList_iff.1 he) hb
            have h2 : e.on ∉ ts := fun hx => by
              have h3 := (hun e.on (hts _ hx).2).2 (.inr hx)
              rw [getD_both h3] at h1
              cases h1
            simpa using h2⟩
        have hni2 : i ∉ hs := fun h1 => by
          have h2 := (hhs i h1).1
          rw [hni] at h2
          cases h2
        have hmem : ∀ x, x ∈ ts.filter (fun j => !Nat.beq j i) ↔ x ∈ ts ∧ x ≠ i := fun x => by
          rw [List.mem_filter]
          refine and_congr_right fun _ => ?_
          cases hb : Nat.beq x i with
          | true => simp [Nat.eq_of_beq_eq_true hb]
          | false => simp [Nat.ne_of_beq_eq_false hb]
        have hlen : (ts.filter fun j => !Nat.beq j i).length < ts.length := List.length_filter_lt_length_iff_exists.2 ⟨i, hm, by simp⟩
        have next : ∀ a1 w1, (Chg N0 ws w1 ∨ ∀ j ∈ hs, ∀ oj, ops[j]? = some oj → pOp oj.op = true) → He P ops ws (fun a' => wpU P ops Q gf ws (k - 1) (ts.filter fun j => !Nat.beq j i) a' w1) hs a1 → wpAny P .any ops Q fuel (listed.setIfInBounds i true) a1 w1 := fun a1 w1 hv hh => by
          refine ih _ hs (ts.filter fun j => !Nat.beq j i) (k - 1) a1 w1 hsz' (by omega) hpw (hpt.filter _) (fun x hx => ?_) hhs (fun x hx => hts x ((hmem x).1 hx).1) hcl' hv hh
          rw [hset x hx, hun x hx, hmem x]
          constructor
          · rintro ⟨h1 | h1, h2⟩
            · exact .inl h1
            · exact .inr ⟨h1, h2⟩
          · rintro (h1 | h1)
            · exact ⟨.inl h1, fun e => hni2 (e ▸ h1)⟩
            · exact ⟨.inr h1.1, h1.2⟩
        have h1 : He P ops ws (fun a' => wpOp P ops Q i (fun a1 w1 => (gf i = true → Chg N0 ws w1 ∧ a1.defers = a'.defers) ∧ wpU P ops Q gf ws (k - 1) (ts.filter fun j => !Nat.beq j i) a1 w1) a' w) hs a := He.mono (fun a' h2 => by
          cases k with
          | zero => exact h2.elim
          | succ k =>
            cases ts with
            | nil => cases hm
            | cons t0 ts0 => exact h2 i hrd) _ _ h
        have hA : ∀ j ∈ hs, ∀ oj, ops[j]? = some oj → (aOp oi.op = true ∨ pOp oj.op = true ∨ gf i = true) ∧ oj.apart ops oi = true := fun j hj oj hoj => by
          have hjn := hhs j hj
          rcases M.tails i j oi oj hni hjn.1 hoi hoj with h1 | h1
          · have hjs : j < ops.size := hjn.2
            have h2 := hdep j h1 hjs
            have h3 := (hun j hjs).2 (.inl hj)
            rw [getD_both h3] at h2
            cases h2
          · exact h1
        cases hAi : aOp oi.op with
        | true =>
          have h2 := He.allocU (ws := ws) M.sel hP hoi (fun a1 w1 => Chg N0 w w1 ∧ wpU P ops Q gf ws (k - 1) (ts.filter fun j => !Nat.beq j i) a1 w1) hs a (fun j hj oj hoj => (hA j hj oj hoj).2) (He.mono (fun a' h2 => wpOp_mono (fun a1 w1 (h3 : CD a' w a1 w1 ∧ _) => ⟨h3.1.2, h3.1.1, h3.2⟩) (wpOp_aOp hP hoi hAi (wpOp_mono (fun a1 w1 h3 => h3.2) h2))) _ _ h1)
          refine wpOp_mono (fun a1 w1 h3 => ?_) h2
          have h4 : Chg N0 w w1 := He.world h3.2
          exact next a1 w1 (hinv.imp (fun h5 => h5.trans0 h4) id) (He.mono (fun a' h5 => h5.2) _ _ h3.2)
        | false =>
          cases hGi : gf i with
          | true =>
            have h2 := He.allocU (ws := ws) M.sel hP hoi (fun a1 w1 => Chg N0 ws w1 ∧ wpU P ops Q gf ws (k - 1) (ts.filter fun j => !Nat.beq j i) a1 w1) hs a (fun j hj oj hoj => (hA j hj oj hoj).2) (He.mono (fun a' h2 => wpOp_mono (fun a1 w1 h3 => ⟨(h3.1 hGi).2, (h3.1 hGi).1, h3.2⟩) h2) _ _ h1)
            refine wpOp_mono (fun a1 w1 h3 => ?_) h2
            exact next a1 w1 (.inl (He.world h3.2)) (He.mono (fun a' h5 => h5.2) _ _ h3.2)
          | false =>
            have hpo : ∀ j ∈ hs, ∀ oj, ops[j]? = some oj → pOp oj.op = true := fun j hj oj hoj => ((hA j hj oj hoj).1.resolve_left (by rw [hAi]; simp)).resolve_right (by rw [hGi]; simp)
            have h2 := He.tail M.sel hP hoi (wpU P ops Q gf ws (k - 1) (ts.filter fun j => !Nat.beq j i)) hs a (fun j hj oj hoj => ⟨hpo j hj oj hoj, (hA j hj oj hoj).2⟩) (He.move hpo (He.mono (fun a' h2 => wpOp_mono (fun a1 w1 h3 => h3.2) h2) _ _ h1))
            exact wpOp_mono (fun a1 w1 h3 => next a1 w1 (.inr hpo) (He.move hpo h3)) h2
end
def gOp2 (o : Op) : Bool := gOp o || match o with | .store .. => true | _ => false
def gAt2 (ops : Array Oper) (i : Nat) : Bool := match ops[i]? with | some o => gOp2 o.op && o.guard.isNone | none => false
/-- what makes memory, in whatever order; of what gf names it is shown that it makes its own alone -/
def xuF (T : Tb) (P : Program) (n : Nat) (ops : Array Oper) (gf : Nat → Bool) (ws : World) (K : Env → World → Prop) (ih : List Nat → Env → World → Prop) (ts : List Nat) (e : Env) (w : World) : Prop :=
  match ts with
  | [] => K e w
  | t0 :: r => conjL (fun i => match ops[i]? with
    | some o => bif gf i then xo T P (ev n e) o w fun v w' => Cn (Chg N0 ws w') (fcv v fun v => fnl ((t0 :: r).filter fun j => !Nat.beq j i) fun ts' => ih ts' (eup e o.dst v) w')
      else xl0 T P n ops (fun e' w' => fnl ((t0 :: r).filter fun j => !Nat.beq j i) fun ts' => ih ts' e' w') [o] e w
    | none => False) (rdyT ops (t0 :: r))
def xu (T : Tb) (P : Program) (n : Nat) (ops : Array Oper) (gf : Nat → Bool) (ws : World) (K : Env → World → Prop) (fuel : Nat) : List Nat → Env → World → Prop :=
  Nat.rec (motive := fun _ => List Nat → Env → World → Prop) (fun _ _ _ => False) (fun _ ih => xuF T P n ops gf ws K ih) fuel
theorem xu_sound {P : Program} {T : Tb} (hT : TabOk P T) {n : Nat} {ops : Array Oper} {gf : Nat → Bool} {ws : World} {K : Env → World → Prop} {Q : Exit → Act → World → Prop} (hgf : ∀ i, gf i = true → gAt2 ops i = true) (hQ : ∀ e a w, Rel n e a → K e w → Q .normal a w) :
    ∀ (fuel : Nat) (ts : List Nat) (e : Env) (a : Act) (w : World), Rel n e a → xu T P n ops gf ws K fuel ts e w → wpU P ops Q gf ws fuel ts a w
  | 0, _, _, _, _, _, h => h.elim
  | _ + 1, [], e, a, w, hr, h => hQ e a w hr h
  | fuel + 1, t0 :: r, e, a, w, hr, h => by
    have ih := fun ts e a w => xu_sound (ws := ws) hT hgf hQ fuel ts e a w
    intro i hi
    have h1 := conjL_all (show conjL _ (rdyT ops (t0 :: r)) from h) i hi
    unfold wpOp
    cases ho : ops[i]? with
    | none => rw [ho] at h1; exact h1.elim
    | some o =>
      rw [ho] at h1
      simp only at h1 ⊢
      cases hg : gf i with
      | true =>
        rw [hg] at h1
        simp only [cond_true] at h1
        have hgn : o.guard = none := by
          have := hgf i hg
          unfold gAt2 at this
          rw [ho] at this
          simp only [Bool.and_eq_true, Option.isNone_iff_eq_none] at this
          exact this.2
        rw [if_pos (by simp [Region.wanted, hgn])]
        exact .inl (gen_wp hr (xo_sound hT h1) fun v w' hx => ⟨fun _ => ⟨hx.1, put_defers _ _ _⟩, ih _ _ _ _ (hr.put _ _) (by have h2 := hx.2; rw [fcv_eq, fnl_eq] at h2; exact h2)⟩)
      | false =>
        rw [hg] at h1
        simp only [cond_false] at h1
        exact xl_one hT (fun e1 a1 w1 hr1 hx1 => ⟨fun hh => (by cases hh), ih _ _ _ _ hr1 (by rw [fnl_eq] at hx1; exact hx1)⟩) hr h1
/-- which appends, calls, stores are shown to change nothing of the start: all but the last -/
def lastG2 (ops : Array Oper) : Nat := (List.range ops.size).foldl (fun m i => bif gAt2 ops i then i else m) 0
def gBut2 (ops : Array Oper) (i : Nat) : Bool := gAt2 ops i && !Nat.beq i (lastG2 ops)
theorem gBut2_at {ops : Array Oper} (i : Nat) (h : gBut2 ops i = true) : gAt2 ops i = true := by
  unfold gBut2 at h
  simp only [Bool.and_eq_true] at h
  exact h.1
theorem dr_autou {P : Program} {T : Tb} (hT : TabOk P T) {n : Nat} {id : Nat} {l : List Oper} {K : Exit → Env → World → Prop} {e : Env} {w : World} (hm : P.follows .mixedOrders = true) (hB : mixTB l.toArray (isHead (heads l 0 [])) (gBut2 l.toArray) = true)
    (h : xrs T P n l.toArray w.drew (fun _ e' => fnl (tlix l) fun ts => xu T P n l.toArray (gBut2 l.toArray) w.drew (fun e w => K .normal e w) (l.length + 1) ts e' w.drew) l 0 [] [] e) : Dr P n (.region id l.toArray true) K e w := by
  refine dr_of fun rr a hfl hr => ?_
  have M := mixT_of hB
  generalize hp : isHead (heads l 0 []) = p at M
  refine Code.wpIn_mono (Q := QX n (fun ex e w => match ex with | .panic _ => False | .outgrown => False | ex => K ex e w)) ?_ ?_
  · rintro ex a' w' ⟨e', hr', hk⟩
    cases ex <;> first
      | exact ⟨e', hr', hk⟩
      | exact hk.elim
  have hin : ∀ q : Nat → Bool, ∀ i ∈ (List.range l.length).filter q, q i = true ∧ i < l.length := fun q i hi => by
    have := List.mem_filter.1 hi
    exact ⟨this.2, List.mem_range.1 this.1⟩
  have hlen : ∀ l : List Nat, (l.filter p).length + (l.filter fun i => !p i).length = l.length := fun l => by
    induction l with
    | nil => rfl
    | cons x r ih => cases hx : p x <;> simp [hx] <;> omega
  refine region_in hfl (fun _ _ ⟨_, _, h⟩ => h) hm (mix_anyU M (ws := w.drew) (fun c a w ⟨e, _, hk⟩ => hk) _ _ ((List.range l.length).filter p) ((List.range l.length).filter fun i => !p i) (l.length + 1) a _ (by simp) (by have := hlen (List.range l.length); simp at this ⊢; omega)
    (List.pairwise_lt_range.sublist List.filter_sublist) ((List.nodup_range).sublist List.filter_sublist) (fun i hi => ?_) (fun i hi => by simpa using hin p i hi) (fun i hi => by simpa using hin (fun i => !p i) i hi) (fun x y hx => ?_) (.inl (Chg.refl _ _)) ?_)
  · have hi' : i < l.length := by simpa using hi
    constructor
    · intro _
      cases hp : p i with
      | true => exact .inl (List.mem_filter.2 ⟨List.mem_range.2 hi', hp⟩)
      | false => exact .inr (List.mem_filter.2 ⟨List.mem_range.2 hi', by simp [hp]⟩)
    · intro _
      simp [hi']
  · rw [getD_replicate_false] at hx; cases hx
  · have e1 := hix_at l 0 [] [] rfl
    simp only [List.nil_append, ← List.range_eq_range'] at e1
    rw [← hp, e1]
    refine xrs_sound hT (sel false (heads l 0 []) l) (fun e a hr h => ?_) l 0 [] [] e a (fun j hj => by simp) rfl hr h
    rw [fnl_eq] at h
    exact xu_sound hT (K := fun e w => K .normal e w) (fun i hi => gBut2_at i hi) (fun e a w hr hk => ⟨e, hr, hk⟩) _ _ _ _ _ hr h
theorem cl_id {P : Program} {f : FuncId} {args : Array Value} {w : World} {k : Value → World → Prop} (h : Cl P f args w k) : Cl P f args w k := h
theorem cl_eq {P : Program} {f f' : FuncId} {args args' : Array Value} {w : World} {R : Ending → World → Prop} {k : Value → World → Prop} (h : Calls P f' args' w R) (ef : f = f') (ea : args = args') (hk : ∀ e w', R e w' → ∃ v, e = .returned v ∧ k v w') : Cl P f args w k := by
  subst ef ea
  exact cl_of h hk
theorem Hp.join {S : Nat → Prop} {w0 w w' : World} {rs rs' : List Res} (h : Hp S w0 w rs) (h' : Hp N0 w w' rs') : Hp S w0 w' (rs' ++ rs) := by
  have h0 := h.call0 h'.chg
  refine ⟨h0.chg, fun r hr => ?_, List.pairwise_append.2 ⟨h'.sep, h0.sep, fun r hr r' hr' b hb hb' => ?_⟩, fun r hr b hb => ?_⟩
  · rcases List.mem_append.1 hr with hr | hr
    · exact h'.ok r hr
    · exact h0.ok r hr
  · have h1 := (h'.own r hr b hb).resolve_left fun hh => hh
    have h2 := r'.lt w (h.ok r' hr') b hb'
    omega
  · rcases List.mem_append.1 hr with hr | hr
    · exact .inr (Nat.le_trans h.chg.size ((h'.own r hr b hb).resolve_left fun hh => hh))
    · exact h0.own r hr b hb
theorem perm213 {α : Type} (a b c : α) : [b, a, c].Perm [a, b, c] := .swap ..
theorem perm132 {α : Type} (a b c : α) : [a, c, b].Perm [a, b, c] := .cons _ (.swap ..)
theorem perm231 {α : Type} (a b c : α) : [b, c, a].Perm [a, b, c] := .trans (.cons _ (.swap ..)) (.swap ..)
theorem perm312 {α : Type} (a b c : α) : [c, a, b].Perm [a, b, c] := .trans (.swap ..) (.cons _ (.swap ..))
theorem perm321 {α : Type} (a b c : α) : [c, b, a].Perm [a, b, c] := .trans (.cons _ (.swap ..)) (.trans (.swap ..) (.cons _ (.swap ..)))
/-- a part of the code by what it comes to -/
theorem dr_cut {P : Program} {n : Nat} {c : Code} {K : Exit → Env → World → Prop} {e : Env} {w : World} (I : Env → World → Prop) (h : Dr P n c (fun ex e w => match ex with | .normal => I e w | _ => False) e w) (hk : ∀ e w, I e w → K .normal e w) : Dr P n c K e w := by
  refine dr_of fun rr a hfl hr => Code.wpIn_mono ?_ (h.out rr a hfl hr)
  rintro ex a' w' ⟨e', hr', h1⟩
  cases ex <;> first
    | exact ⟨e', hr', hk _ _ h1⟩
    | exact h1.elim
end Go.Proofs.YteabebmlclgakaaGreat
/- Range: ranges over maps, in whatever order they come. No condition. -/
namespace Go.Proofs.YteabebmlclgakaaGreat
set_option linter.unusedSimpArgs false
set_option linter.unusedVariables false
open Go.RowKit
open Go.ChangeMaps (setBlock)
/-- the iterator of a map, behind so many steps (their entries' places) -/
def seenOf (es : Array MapEntry) (done : List Nat) : Array Nat := (done.map fun i => ((es[i]?).map (·.born)).getD 0).toArray
def itR (b m : Nat) (es : Array MapEntry) (clock : Nat) (done : List Nat) : Res where
  dom x := x = b
  ok w := w.heap[b]? = some (.mapIter (some m) clock (seenOf es done) clock)
  lt w h x hx := by subst hx; exact heap_lt h
  loc w w' h hk := (h b rfl).trans hk
/-- a map, with its stamps -/
structure MapEs {κ ν : Type} (enc : κ → Value) (val : ν → Value) (w : World) (m : Nat) (es : Array MapEntry) (clock : Nat) (l : List (κ × ν)) : Prop where
  heap : w.heap[m]? = some (.map es clock)
  stamp : MapKept.Stamped es clock
  ents : es.toList.map (fun e => (e.key, e.val)) = l.map (fun p => (enc p.1, val p.2))
section
variable {κ ν : Type} {enc : κ → Value} {val : ν → Value} {P : Program} {S : Nat → Prop} {w0 w w' : World} {rs : List Res} {b m : Nat} {es : Array MapEntry} {clock : Nat} {l : List (κ × ν)} {done : List Nat} {ρ : Operand → Value} {o : Oper} {g : Value → World → Prop}
theorem MapAt.getEs (h : MapAt enc val w m l) : ∃ es clock, MapEs enc val w m es clock l := by
  obtain ⟨es, c, h1, h2, h3⟩ := h
  exact ⟨es, c, h1, h2, h3⟩
theorem MapEs.keep (h : MapEs enc val w m es clock l) (hc : Chg S w w') (hn : ¬ S m) : MapEs enc val w' m es clock l := ⟨hc.heap h.heap hn, h.stamp, h.ents⟩
theorem MapEs.keep0 (h : MapEs enc val w m es clock l) (hc : Chg N0 w w') : MapEs enc val w' m es clock l := h.keep hc fun hh => hh
theorem MapEs.len (h : MapEs enc val w m es clock l) : es.size = l.length := by
  have := congrArg List.length h.ents
  simpa using this
theorem MapEs.at (h : MapEs enc val w m es clock l) {i : Nat} {p : κ × ν} (hi : l[i]? = some p) : ∃ e, es[i]? = some e ∧ e.key = enc p.1 ∧ e.val = val p.2 := by
  have h1 : (es.toList.map fun e => (e.key, e.val))[i]? = some (enc p.1, val p.2) := by rw [h.ents, List.getElem?_map, hi]; rfl
  rw [List.getElem?_map, Array.getElem?_toList] at h1
  cases he : es[i]? with
  | none => rw [he] at h1; cases h1
  | some e =>
    rw [he] at h1
    simp only [Option.map_some, Option.some.injEq, Prod.mk.injEq] at h1
    exact ⟨e, rfl, h1.1, h1.2⟩
theorem gen_range {t k e : TypeId} {x : Operand} (hop : o.op = .range t x) (h : Hp S w0 w rs) (hx : ρ x = .map (some m)) (ht : P.underlying t = some (.map k e)) (hM : MapEs enc val w m es clock l) (hk : ∀ b w', Hp S w0 w' (itR b m es clock [] :: rs) → g (.pointer (some ⟨b, 0, none⟩)) w') : Gen P ρ o w g := by
  have hrun := run_range_map (P := P) w t k e m es clock ht hM.heap
  refine gen_v (v := .pointer (some ⟨w.heap.size, 0, none⟩)) (w' := w.alloc (.mapIter (some m) clock #[] clock)) (by simp only [execOp, hop, hx, Sem.run_bind, hrun, Result.andThen_ok, Sem.run_pure]) (hk _ _ (h.new ((Chg.refl _ _).alloc _) ?_ fun c hc => ?_))
  · show (w.alloc _).heap[w.heap.size]? = some (.mapIter (some m) clock (seenOf es []) clock)
    exact (MapKept.heap_alloc w _).1
  · have : c = w.heap.size := hc
    omega
theorem born_ne (hs : MapKept.Stamped es clock) {i j : Nat} {x y : MapEntry} (hi : es[i]? = some x) (hj : es[j]? = some y) (he : x.born = y.born) : i = j := by
  have hn := hs.2.1
  rw [← Array.getElem?_toList] at hi hj
  have h1 : (es.toList.map (·.born))[i]? = some x.born := by rw [List.getElem?_map, hi]; rfl
  have h2 : (es.toList.map (·.born))[j]? = some x.born := by rw [List.getElem?_map, hj, he]; rfl
  exact (List.getElem?_inj (by have := (List.getElem?_eq_some_iff.1 hi).1; simpa using this) hn).1 (h1.trans h2.symm)
theorem seen_iff (hs : MapKept.Stamped es clock) (hd : ∀ i ∈ done, i < es.size) {i : Nat} {e : MapEntry} (hi : es[i]? = some e) : (seenOf es done).contains e.born = decide (i ∈ done) := by
  rw [Bool.eq_iff_iff]
  simp only [seenOf, List.contains_toArray, List.contains_iff_mem, List.mem_map, decide_eq_true_eq]
  constructor
  · rintro ⟨j, hj, hb⟩
    have hjs := hd j hj
    have hje : es[j]? = some es[j] := Array.getElem?_eq_getElem hjs
    rw [hje] at hb
    have : j = i := born_ne hs hje hi (by simpa using hb)
    exact this ▸ hj
  · intro h
    exact ⟨i, h, by rw [hi]; rfl⟩
/-- a step: the end, or an entry that was not met -/
theorem gen_next {it : Operand} (hop : o.op = .next it false) (h : Hp S w0 w rs) (j : Nat) (hj : rs[j]? = some (itR b m es clock done)) (hx : ρ it = .pointer (some ⟨b, 0, none⟩)) (hM : MapEs enc val w m es clock l) (hd : ∀ i ∈ done, i < l.length)
    (hend : (∀ i, i < l.length → i ∈ done) → g (.tuple #[.bool false]) w) (hstep : ∀ i p w', l[i]? = some p → i ∉ done → Hp S w0 w' (rs.set j (itR b m es clock (done ++ [i]))) → g (.tuple #[.bool true, enc p.1, val p.2]) w') : Gen P ρ o w g := by
  have hr : w.heap[b]? = some (.mapIter (some m) clock (seenOf es done) clock) := h.get hj
  have hd' : ∀ i ∈ done, i < es.size := fun i hi => by rw [hM.len]; exact hd i hi
  rcases run_next_at (P := P) w o.type b m clock clock (seenOf es done) es clock hr hM.heap hM.stamp.1 (Nat.le_refl _) with ⟨h0, hrun⟩ | ⟨e, he, w1, hw1, hrun⟩
  · refine gen_v (by simp only [execOp, hop, hx, Sem.run_bind, hrun, Result.andThen_ok, Sem.run_pure]) (hend fun i hi => ?_)
    have hil : i < es.size := by rw [hM.len]; exact hi
    have hie : es[i]? = some es[i] := Array.getElem?_eq_getElem hil
    have h1 := seen_iff hM.stamp hd' hie
    false_or_by_contra
    rename_i hn
    rw [decide_eq_false hn] at h1
    have h2 : es[i] ∈ leftOf es (seenOf es done) := by
      unfold leftOf
      rw [Array.mem_filter]
      exact ⟨Array.getElem_mem _, by rw [h1]; rfl⟩
    have h3 : leftOf es (seenOf es done) = #[] := Array.eq_empty_of_size_eq_zero h0
    rw [h3] at h2
    simp at h2
  · have he' : e ∈ es ∧ (!(seenOf es done).contains e.born) = true := by
      have h1 : e ∈ leftOf es (seenOf es done) := Array.mem_toList_iff.1 he
      unfold leftOf at h1
      exact Array.mem_filter.1 h1
    obtain ⟨i, hi⟩ := Array.getElem?_of_mem he'.1
    have hil : i < l.length := by rw [← hM.len]; exact (Array.getElem?_eq_some_iff.1 hi).1
    have hp : l[i]? = some l[i] := List.getElem?_eq_getElem hil
    obtain ⟨e', he1, he2, he3⟩ := hM.at hp
    rw [hi] at he1
    cases he1
    have hni : i ∉ done := fun hh => by
      have h1 := seen_iff hM.stamp hd' hi
      rw [decide_eq_true hh] at h1
      rw [h1] at he'
      simp at he'
    have hseen : (seenOf es done).push e.born = seenOf es (done ++ [i]) := by
      simp [seenOf, hi]
    have hw1h : w1.heap = w.heap := by rcases hw1 with rfl | rfl <;> rfl
    have hc1 : Chg N0 w w1 := by
      rcases hw1 with rfl | rfl
      · exact Chg.refl _ _
      · exact (Chg.refl _ _).drew
    rw [he2, he3, hseen] at hrun
    have hbl : b < w.heap.size := heap_lt hr
    have hc2 : Chg (fun x => x = b) w (setBlock w1 b (.mapIter (some m) clock (seenOf es (done ++ [i])) clock)) := by
      refine ⟨hc1.os, hc1.tape, hc1.output, ?_, fun k hk hn => ?_, hc1.drawn⟩
      · show w.heap.size ≤ (w1.heap.setIfInBounds b _).size
        rw [Array.size_setIfInBounds, hw1h]
        exact Nat.le_refl _
      · show (w1.heap.setIfInBounds b _)[k]? = _
        rw [Array.getElem?_setIfInBounds_ne (fun e => hn e.symm), hw1h]
    refine gen_v (by simp only [execOp, hop, hx, Sem.run_bind, hrun, Result.andThen_ok, Sem.run_pure]) (hstep i l[i] _ hp hni (h.mut hj hc2 (r' := itR b m es clock (done ++ [i])) ?_ fun x hx => .inl hx))
    show (w1.heap.setIfInBounds b _)[b]? = _
    rw [Array.getElem?_setIfInBounds_self_of_lt (by rw [hw1h]; exact hbl)]
/-- the entry of the last step -/
theorem gen_entry {it : Operand} (hop : o.op = .entry it) (h : Hp S w0 w rs) (j : Nat) {i : Nat} (hj : rs[j]? = some (itR b m es clock (done ++ [i]))) (hx : ρ it = .pointer (some ⟨b, 0, none⟩)) (hM : MapEs enc val w m es clock l) {p : κ × ν} (hi : l[i]? = some p)
    (hk : g (.tuple #[enc p.1, val p.2]) w) : Gen P ρ o w g := by
  have hr : w.heap[b]? = some (.mapIter (some m) clock (seenOf es (done ++ [i])) clock) := h.get hj
  obtain ⟨e, he1, he2, he3⟩ := hM.at hi
  have hseen : seenOf es (done ++ [i]) = (seenOf es done).push e.born := by simp [seenOf, he1]
  rw [hseen] at hr
  have hrun := run_entry_at (P := P) w b m clock (seenOf es done) es clock e hr hM.heap (Array.mem_toList_iff.2 (Array.mem_of_getElem? he1)) hM.stamp.2.1
  rw [he2, he3] at hrun
  exact gen_v (by simp only [execOp, hop, hx, Sem.run_bind, hrun, Result.andThen_ok, Sem.run_pure]) hk
end
attribute [irreducible] itR
end Go.Proofs.YteabebmlclgakaaGreat
