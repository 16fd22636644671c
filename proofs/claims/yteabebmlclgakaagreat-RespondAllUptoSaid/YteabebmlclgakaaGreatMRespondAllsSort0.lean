/- Sort0: arrays and rows; swaps; lengths in bits. No condition. -/
import Derived.Test.YteabebmlclgakaaGreatMRespondAll8
import Derived.Sort.LotA
import Derived.Sort.LotB
import Derived.Sort.LotD3
import Derived.Lib.BitFns
set_option linter.unusedSimpArgs false
set_option linter.unusedVariables false
namespace Go.Proofs.YteabebmlclgakaaGreat
open Go.RowKit
section
variable {α : Type} [Inhabited α]
theorem sat_ (d:Array α) {i:Nat} (h:i < d.size):d.toList[i]? =some d[i]! :=by
 rw [Array.getElem?_toList,Array.getElem?_eq_getElem h,getElem!_pos d i h]
theorem swp_l (d:Array α) (i j:Nat):(d.toList.set i d[j]!).set j d[i]! =(Sort.swp d i j).toList:=by
 simp [Sort.swp,Array.toList_setIfInBounds]
end
section
variable {α : Type} {S : Nat → Prop} {w0 w : World} {rs : List Res} {enc : α → List Value} {e : TypeId} {sz : Nat} {s : Sl α}
theorem st_ownx {a:Addr} {vs:List Value} {k:World→Prop} (h:Hp S w0 w rs) (j:Nat) (hj:rs[j]? =some (rowR e sz enc s)) {b ofs:Nat} (hA:s.A=some ⟨b,ofs,none⟩) (i:Nat) (ha:a=⟨b,ofs+i*sz,none⟩) (x':α) (hv:vs=enc x')
  (hi:i < s.l.length) (hs:∀x:α,(enc x).length=sz) (h1:(enc x').all Value.oneCell'=true) (hk:∀w',Hp S w0 w' (rs.set j (rowR e sz enc ⟨s.A,s.c,s.l.set i x'⟩))→k w'):St w a vs k:=by
 subst hv
 refine st_own h j hj hA i 0 (by rw [ha];rfl) (List.getElem?_eq_getElem hi) x' ?_ (by rw [hs,Nat.zero_add];exact Nat.le_refl _) h1 hk
 have key:∀(vs cs:List Value),cs.length=vs.length→layL vs 0 cs=vs:=by
  intro vs cs hl
  have:=layL_app vs [] cs [] hl
  simpa using this
 exact (key _ _ (by rw [hs,hs])).symm
end
section
variable {P : Program} {w : World} {ρ : Operand → Value} {o : Oper} {g : Value → World → Prop} {t : TypeId} {x i : Operand}
theorem gen_len8 (hop:o.op= .index t x i) (ht:P.underlying t=some .string) {j:Nat} {k:IntKind} (hx:ρ x= .string Lib.len8tab) (hi:ρ i= .int k j) (hj:j≤255) (hk:g (.int .u8 (Lib.bitLen j:Nat)) w):Gen P ρ o w g:=by
 have h1:=Lib.run_index_len8tab (P:=P) w t k j ht (by omega) (by omega)
 have h2:=Lib.len8_eq ⟨j,by omega⟩
 simp only at h2
 rw [h2] at h1
 exact gen_v (by simp [execOp,hop,hx,hi,h1]) hk
end
theorem bitLen_small:∀n:Fin 256,2 ^ Lib.bitLen n.val≤2*n.val+1∧Lib.bitLen n.val≤8∧(0 < n.val→2 ^ Lib.bitLen n.val≤2*n.val):=by decide+kernel
section
variable {α : Type} [Inhabited α] {lt : α → α → Bool} {d : Array α}
theorem insOuter_step {a b i:Nat} (h:i < b):Sort.insOuter lt a b i d=Sort.insOuter lt a b (i+1) (Sort.insInner lt a i d):=by rw [Sort.insOuter,if_pos h]
theorem insOuter_end {a b i:Nat} (h:b≤i):Sort.insOuter lt a b i d=d:=by rw [Sort.insOuter,if_neg (by omega)]
theorem insInner_go {a k:Nat} (h:a < k+1) (hl:lt d[k+1]! d[k]! =true):Sort.insInner lt a (k+1) d=Sort.insInner lt a k (Sort.swp d (k+1) k):=by
 rw [Sort.insInner,if_pos (by simp only [Bool.and_eq_true,decide_eq_true_eq];exact ⟨h,hl⟩)]
theorem insInner_stop {a k:Nat} (hl:lt d[k+1]! d[k]! =false):Sort.insInner lt a (k+1) d=d:=by
 rw [Sort.insInner,if_neg (by rw [hl];simp)]
theorem insInner_low {a j:Nat} (h:j≤a):Sort.insInner lt a j d=d:=by
 cases j with
 |zero=>rfl
 |succ k=>rw [Sort.insInner,if_neg (by simp only [Bool.and_eq_true,decide_eq_true_eq];omega)]
theorem sift_end {hi first root:Nat} (h:hi≤2*root+1):Sort.siftDown lt hi first root d=d:=by
 rw [Sort.siftDown,dif_pos (by omega)]
theorem sift_step {hi first root ch:Nat} (h:2*root+1 < hi) (hc:(ch=2*root+2∧2*root+2 < hi∧lt d[first+(2*root+1)]! d[first+(2*root+2)]! =true)∨(ch=2*root+1∧(hi≤2*root+2∨lt d[first+(2*root+1)]! d[first+(2*root+2)]! =false))):
  Sort.siftDown lt hi first root d=if lt d[first+root]! d[first+ch]! =true then Sort.siftDown lt hi first ch (Sort.swp d (first+root) (first+ch)) else d:=by
 have e:first+(2*root+1)+1=first+(2*root+2):=by omega
 rw [Sort.siftDown,dif_neg (by omega),e]
 rcases hc with ⟨rfl,h1,h2⟩|⟨rfl,h1⟩
 ·rw [if_pos (by simp only [Bool.and_eq_true,decide_eq_true_eq];exact ⟨by omega,h2⟩)]
  cases hl:lt d[first+root]! d[first+(2*root+2)]! with
  |true=>rw [if_neg (by simp),dif_pos (by omega),if_pos rfl]
  |false=>rw [if_pos (by simp),if_neg (by simp)]
 ·rw [if_neg (by
   simp only [Bool.and_eq_true,decide_eq_true_eq]
   rintro ⟨h3,h4⟩
   rcases h1 with h1|h1
   ·omega
   ·rw [h1] at h4;cases h4)]
  cases hl:lt d[first+root]! d[first+(2*root+1)]! with
  |true=>rw [if_neg (by simp),if_pos rfl]
  |false=>rw [if_pos (by simp),if_neg (by simp)]
theorem sift_size {hi first root:Nat} (d:Array α):(Sort.siftDown lt hi first root d).size=d.size:=by
 fun_induction Sort.siftDown lt hi first root d<;>simp_all [Sort.size_swp]
theorem up_go {p:α→Bool} {i j:Nat} (h:i≤j) (hp:p d[i]! =true):Sort.scanUp p d j i=Sort.scanUp p d j (i+1):=by
 rw [Sort.scanUp,if_pos (by simp only [Bool.and_eq_true,decide_eq_true_eq];exact ⟨h,hp⟩)]
theorem up_stop {p:α→Bool} {i j:Nat} (h:j < i∨p d[i]! =false):Sort.scanUp p d j i=i:=by
 rw [Sort.scanUp,if_neg (by
  simp only [Bool.and_eq_true,decide_eq_true_eq]
  rintro ⟨h1,h2⟩
  rcases h with h|h
  ·omega
  ·rw [h] at h2;cases h2)]
theorem down_go {p:α→Bool} {i j:Nat} (h:i≤j+1) (hp:p d[j+1]! =true):Sort.scanDown p d i (j+1)=Sort.scanDown p d i j:=by
 rw [Sort.scanDown,if_pos (by simp only [Bool.and_eq_true,decide_eq_true_eq];exact ⟨h,hp⟩)]
theorem down_stop {p:α→Bool} {i j:Nat} (h:j=0∨j < i∨p d[j]! =false):Sort.scanDown p d i j=j:=by
 cases j with
 |zero=>rfl
 |succ j=>
  rw [Sort.scanDown,if_neg (by
   simp only [Bool.and_eq_true,decide_eq_true_eq]
   rintro ⟨h1,h2⟩
   rcases h with h|h|h
   ·omega
   ·omega
   ·rw [h] at h2;cases h2)]
theorem sorted_go {b i:Nat} (h:i < b) (hl:lt d[i]! d[i - 1]! =false):Sort.scanSorted lt d b i=Sort.scanSorted lt d b (i+1):=by
 rw [Sort.scanSorted,if_pos (by simp only [Bool.and_eq_true,decide_eq_true_eq,Bool.not_eq_eq_eq_not,Bool.not_true];exact ⟨h,hl⟩)]
theorem sorted_stop {b i:Nat} (h:b≤i∨lt d[i]! d[i - 1]! =true):Sort.scanSorted lt d b i=i:=by
 rw [Sort.scanSorted,if_neg (by
  simp only [Bool.and_eq_true,decide_eq_true_eq,Bool.not_eq_eq_eq_not,Bool.not_true]
  rintro ⟨h1,h2⟩
  rcases h with h|h
  ·omega
  ·rw [h] at h2;cases h2)]
theorem sdown_go {j:Nat} (hl:lt d[j+1]! d[j]! =true):Sort.shiftDown lt (j+1) d=Sort.shiftDown lt j (Sort.swp d (j+1) j):=by
 rw [Sort.shiftDown,if_neg (by rw [hl];simp)]
theorem sdown_stop {j:Nat} (hl:lt d[j+1]! d[j]! =false):Sort.shiftDown lt (j+1) d=d:=by
 rw [Sort.shiftDown,if_pos (by rw [hl];simp)]
theorem sup_go {b j:Nat} (h:j < b) (hl:lt d[j]! d[j - 1]! =true):Sort.shiftUp lt b j d=Sort.shiftUp lt b (j+1) (Sort.swp d j (j - 1)):=by
 rw [Sort.shiftUp,if_pos h,if_neg (by rw [hl];simp)]
theorem sup_stop {b j:Nat} (h:b≤j∨lt d[j]! d[j - 1]! =false):Sort.shiftUp lt b j d=d:=by
 rw [Sort.shiftUp]
 split
 ·rcases h with h|h
  ·omega
  ·rw [if_pos (by rw [h];simp)]
 ·rfl
theorem rev_go {i j:Nat} (h:i < j):Sort.reverseLoop i j d=Sort.reverseLoop (i+1) (j - 1) (Sort.swp d i j):=by rw [Sort.reverseLoop,if_pos h]
theorem rev_stop {i j:Nat} (h:j≤i):Sort.reverseLoop i j d=d:=by rw [Sort.reverseLoop,if_neg (by omega)]
end
end Go.Proofs.YteabebmlclgakaaGreat
