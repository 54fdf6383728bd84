/- PureSrc. -/
import Derived.Test.YtbdnbfacalfciaaGreatDoorKb
import Derived.Lib.SplitLaws
import Derived.Lib.Split
namespace Go.Proofs.YtbdnbfacalfciaaGreatDoor
section
variable {σ:Type}
def splitNl:List UInt8->List UInt8->List (List UInt8)
 | [],cur=>[cur]
 | c :: r,cur=>if c=10 then cur :: splitNl r [] else splitNl r (cur++[c])
theorem splitNl_pos (s:List UInt8):∀ cur,splitNl s cur≠[]:=by
 induction s with
 | nil=>intro cur;simp [splitNl]
 | cons c r ih=>
  intro cur
  unfold splitNl
  split
  ·simp
  ·exact ih _
theorem splitNl_len (s:List UInt8):∀ cur,(splitNl s cur).length<=s.length+1:=by
 induction s with
 | nil=>intro cur;simp [splitNl]
 | cons c r ih=>
  intro cur
  unfold splitNl
  split
  ·have:=ih [];simp;omega
  ·have:=ih (cur++[c]);simp;omega
theorem splitNl_each (s:List UInt8):∀ cur,∀ l∈splitNl s cur,l.length<=cur.length+s.length:=by
 induction s with
 | nil=>intro cur l hl;simp [splitNl] at hl;subst hl;simp
 | cons c r ih=>
  intro cur l hl
  unfold splitNl at hl
  split at hl
  ·rcases List.mem_cons.1 hl with rfl | hl
   ·simp
   ·have:=ih [] l hl;simp at this;simp;omega
  ·have:=ih _ l hl;simp at this;simp;omega
def linesL (s:List UInt8):List (List UInt8):=if (splitNl s []).getLastD [] = [] then (splitNl s []).dropLast else splitNl s []
theorem lines_len (s:List UInt8):(linesL s).length<=s.length+1:=by
 have:=splitNl_len s []
 unfold linesL
 split <;> simp <;> omega
theorem lines_each (s:List UInt8) (l:List UInt8) (hl:l∈linesL s):l.length<=s.length:=by
 have:=splitNl_each s [] l (by
  unfold linesL at hl
  split at hl
  ·exact (List.dropLast_sublist _).subset hl
  ·exact hl)
 simpa using this
def readL (p:List UInt8->σ × Nat):List (List UInt8)->Nat->List σ->List σ × Nat × Nat
 | [],_,acc=>(acc,0,0)
 | l :: r,i,acc=>if (p l).2≠0 then ([],i+1,(p l).2) else readL p r (i+1) (acc++[(p l).1])
theorem readL_len (p:List UInt8->σ × Nat) (a:List (List UInt8)):∀ i acc,(readL p a i acc).2.2=0->(readL p a i acc).1.length=acc.length+a.length/\(readL p a i acc).2.1=0:=by
 induction a with
 | nil=>intro i acc _;simp [readL]
 | cons l r ih=>
  intro i acc h
  by_cases hl:(p l).2=0
  ·simp only [readL,hl,ne_eq,not_true_eq_false,if_false] at h ⊢
   have:=ih _ _ h
   simp at this;simp;omega
  ·simp [readL,hl] at h
theorem readL_bad (p:List UInt8->σ × Nat) (a:List (List UInt8)):∀ i acc,(readL p a i acc).2.2≠0->(readL p a i acc).1 = []:=by
 induction a with
 | nil=>intro i acc h;simp [readL] at h
 | cons l r ih=>
  intro i acc h
  by_cases hl:(p l).2=0
  ·simp only [readL,hl,ne_eq,not_true_eq_false,if_false] at h ⊢
   exact ih _ _ h
  ·simp [readL,hl]
end
def preH (c:List UInt8):List (List UInt8)->List (List UInt8)
 | []=>[]
 | x :: r=>(c++x) :: r
theorem splitNl_pre (s:List UInt8):∀ cur,splitNl s cur=preH cur (splitNl s []):=by
 induction s with
 | nil=>intro cur;simp [splitNl,preH]
 | cons c r ih=>
  intro cur
  by_cases h:c=10
  ·simp [splitNl,preH,h]
  ·simp only [splitNl,h,if_false]
   rw [ih (cur++[c]),ih ([]++[c])]
   cases splitNl r [] <;> simp [preH]
theorem index_cons_ne (c:UInt8) (r:List UInt8) (h:c≠10):Lib.index (c :: r) [10]=if Lib.index r [10] == -1 then -1 else Lib.index r [10]+1:=by
 have:([10]:List UInt8).isPrefixOf (c :: r)=false:=by simp [List.isPrefixOf,Ne.symm h]
 rw [Lib.index,this];simp
theorem splitK_cons_ne (c:UInt8) (r:List UInt8) (h:c≠10) (k:Nat):Lib.splitK [10] 0 k (c :: r)=preH [c] (Lib.splitK [10] 0 k r):=by
 cases k with
 | zero=>simp [Lib.splitK,preH]
 | succ k=>
  have hge:=Lib.index_ge r [10]
  unfold Lib.splitK
  rw [index_cons_ne c r h]
  by_cases hi:Lib.index r [10] = -1
  ·simp [hi,preH]
  ·have e1:(Lib.index r [10] == -1)=false:=by simpa using hi
   have e2:(Lib.index r [10]+1 == -1)=false:=by rw [beq_eq_false_iff_ne];omega
   have e3:(Lib.index r [10]+1).toNat=(Lib.index r [10]).toNat+1:=by omega
   simp [e1,e2,e3,preH]
theorem split_nl (s:List UInt8):Lib.splitK [10] 0 (Lib.count s [10]) s=splitNl s []:=by
 induction s with
 | nil=>rfl
 | cons c r ih=>
  by_cases h:c=10
  ·subst h
   rw [Lib.count_cons_eq,Nat.add_comm]
   have hp:([10]:List UInt8).isPrefixOf (10 :: r)=true:=by simp [List.isPrefixOf]
   have:Lib.index (10 :: r) [10]=0:=by rw [Lib.index,hp];simp
   unfold Lib.splitK
   rw [this]
   simp [splitNl,ih]
  ·rw [Lib.count_cons_ne _ _ _ h,splitK_cons_ne c r h,ih]
   simp only [splitNl,h,if_false]
   rw [splitNl_pre r ([]++[c])];simp
def crL (l:List UInt8):List UInt8:=Lib.trimSuffix l [13]
def parseCr (d:Int) (l:List UInt8):St × Nat:=parseS d (crL l)
def srcS (d:Int) (s:List UInt8):List St × Nat × Nat:=
 if knownB d=false then ([],0,1)
 else if 2097152<s.length∨131072<s.count 10∨131072<(linesL s).length then ([],0,11)
 else readL (parseCr d) (linesL s) 0 []
theorem src_read (d:Int) (hk:knownB d=true) (s:List UInt8) (hs:s.length<=100000):srcS d s=readL (parseCr d) (linesL s) 0 []:=by
 have c1:s.count 10<=s.length:=List.count_le_length
 have l1:=lines_len s
 unfold srcS
 rw [hk,if_neg (by simp),if_neg (by omega)]
theorem src_len (d:Int) (s:List UInt8) (hs:s.length<=100000):(srcS d s).1.length<=s.length+1:=by
 cases hk:knownB d with
 | false=>unfold srcS;rw [if_pos hk];simp
 | true=>
  rw [src_read d hk s hs]
  have l1:=lines_len s
  by_cases h:(readL (parseCr d) (linesL s) 0 []).2.2=0
  ·have:=(readL_len _ _ _ _ h).1
   simp at this;omega
  ·rw [readL_bad _ _ _ _ h];simp
end Go.Proofs.YtbdnbfacalfciaaGreatDoor
