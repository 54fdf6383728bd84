/- Xa. -/
import Derived.Test.YtbdnbfacalfciaaGreatDoorKb
import Derived.Maps.OwnOps
import Derived.Maps.OwnSet
import Derived.Maps.Views
import Derived.Lib.SlMapFilter
import Derived.Test.YtbdnbfacalfciaaGreatDoorPureSrc
import Derived.Test.YtbdnbfacalfciaaGreatDoorUa
namespace Go.Proofs.YtbdnbfacalfciaaGreatDoor
abbrev Tb:=List (List UInt8 × Nat × Nat)
def getT (t:Tb) (m:List UInt8):Option (Nat × Nat):=(t.find? (fun x=>x.1 == m)).map (·.2)
def setT (t:Tb) (m:List UInt8) (n how:Nat):Tb:=if (getT t m).isSome then t.map (fun x=>if x.1 == m then (m,n,how) else x) else t++[(m,n,how)]
def putK (t:Tb) (m:List UInt8) (how:Nat):Nat:=
 if greatB m=false then 2
 else match getT t m with
  | some (_,h)=>if how=3/\h=3 then 0 else 4
  | none=>if 2048<=t.length then 11 else 0
def forgetT (t:Tb):Tb:=t.filter (fun x=>x.2.2 != 3)
def valT (t:Tb) (m:List UInt8):Nat × Nat:=match getT t m with
 | some (n,_)=>(n,0)
 | none=>(0,3)
open Go.RowKit
abbrev DU:=DataW Unit
abbrev litS (m:List UInt8):Lit:=.string m
abbrev symD (m:List UInt8) (n how:Nat):DU:=.agg [.lit (.string m),.lit (.int .u16 n),.lit (.int .i64 how)]
def entS (x:List UInt8 × Nat × Nat):Lit × DU:=(litS x.1,symD x.1 x.2.1 x.2.2)
def TabD (D:DU) (t:Tb):Prop:=∃ es,D=.map es/\es.Perm (t.map entS)/\(t.map (·.1)).Nodup/\∀ x∈t,x.1.length<=1000/\x.2.1<=65535
theorem TabD.nil:TabD (.map []) []:=⟨[],rfl,by simp,by simp,by simp⟩
theorem TabD.size {D:DU} {t:Tb} (h:TabD D t):Maps.size D=t.length:=by
 obtain ⟨es,rfl,hp,_,_⟩:=h
 rw [Maps.size_eq,hp.length_eq,List.length_map]
theorem same_str (a b:List UInt8):(litS a).sameKey (litS b)=(a == b):=by
 rw [Bool.eq_iff_iff]
 simp [Lit.sameKey]
theorem has_list (t:Tb) (m:List UInt8):((t.map entS).any fun p=>p.1.sameKey (litS m))=(getT t m).isSome:=by
 induction t with
 | nil=>rfl
 | cons x r ih=>
  rw [List.map_cons,List.any_cons,ih]
  show ((litS x.1).sameKey (litS m) || _)=_
  rw [same_str]
  unfold getT
  rw [List.find?_cons]
  cases h:x.1 == m <;> simp
theorem TabD.has {D:DU} {t:Tb} (h:TabD D t) (m:List UInt8):Maps.has D (litS m)=(getT t m).isSome:=by
 obtain ⟨es,rfl,hp,_,_⟩:=h
 rw [Maps.has_eq,← has_list]
 rw [Bool.eq_iff_iff,List.any_eq_true,List.any_eq_true]
 constructor
 ·rintro ⟨p,h1,h2⟩;exact ⟨p,hp.mem_iff.1 h1,h2⟩
 ·rintro ⟨p,h1,h2⟩;exact ⟨p,hp.mem_iff.2 h1,h2⟩
theorem getT_mem {t:Tb} {m:List UInt8} {n h:Nat} (hg:getT t m=some (n,h)):(m,n,h)∈t:=by
 unfold getT at hg
 cases hf:t.find? (fun x=>x.1 == m) with
 | none=>rw [hf] at hg;cases hg
 | some x=>
  rw [hf] at hg
  have h1:=List.mem_of_find?_eq_some hf
  have h2:=List.find?_some hf
  simp at hg h2
  obtain ⟨a,b⟩:=x
  simp at h2 hg
  subst h2 hg
  exact h1
theorem getT_none {t:Tb} {m:List UInt8} (hg:getT t m=none):∀ x∈t,x.1≠m:=by
 unfold getT at hg
 simp at hg
 exact fun x hx=>hg x.1 x.2.1 x.2.2 hx
theorem tab_uniq (t:Tb) (hn:(t.map (·.1)).Nodup) (x y:List UInt8 × Nat × Nat) (hx:x∈t) (hy:y∈t) (h:x.1=y.1):x=y:=by
 induction t with
 | nil=>cases hx
 | cons a r ih=>
  rw [List.map_cons,List.nodup_cons] at hn
  rcases List.mem_cons.1 hx with e1 | h1 <;> rcases List.mem_cons.1 hy with e2 | h2
  ·rw [e1,e2]
  ·subst e1;exact (hn.1 (List.mem_map.2 ⟨y,h2,h.symm⟩)).elim
  ·subst e2;exact (hn.1 (List.mem_map.2 ⟨x,h1,h⟩)).elim
  ·exact ih hn.2 h1 h2
theorem TabD.at {D:DU} {t:Tb} (h:TabD D t) (m:List UInt8) (zd:DU):D.atKey (litS m) zd=(match getT t m with | some (n,k)=>symD m n k | none=>zd):=by
 have hh:=h.has m
 obtain ⟨es,rfl,hp,hn,hL⟩:=h
 cases hg:getT t m with
 | none=>
  rw [hg] at hh
  exact Maps.atKey_of_not_has hh zd
 | some x=>
  obtain ⟨n,k⟩:=x
  have hm:=getT_mem hg
  show (DataW.map es).atKey (litS m) zd=symD m n k
  unfold DataW.atKey
  simp only []
  cases hf:es.find? (fun p=>p.1.sameKey (litS m)) with
  | none=>
   rw [List.find?_eq_none] at hf
   have:=hf (entS (m,n,k)) (hp.mem_iff.2 (List.mem_map_of_mem hm))
   exact absurd (by show (litS m).sameKey (litS m)=true;rw [same_str];simp) this
  | some p=>
   have h1:=hp.mem_iff.1 (List.mem_of_find?_eq_some hf)
   have h2:=List.find?_some hf
   obtain ⟨y,hy,rfl⟩:=List.mem_map.1 h1
   have h3:y.1=m:=by
    have:(litS y.1).sameKey (litS m)=true:=h2
    rw [same_str] at this
    simpa using this
   have h4:y=(m,n,k):=tab_uniq t hn _ _ hy hm h3
   subst h4
   rfl
theorem drop_none (t:Tb) (m:List UInt8) (h:∀ x∈t,x.1≠m):t.filter (fun x=>!(x.1 == m))=t:=by
 rw [List.filter_eq_self]
 intro x hx
 simp [h x hx]
theorem same_none (t:Tb) (m:List UInt8) (n how:Nat) (h:∀ x∈t,x.1≠m):t.map (fun x=>if x.1 == m then (m,n,how) else x)=t:=by
 induction t with
 | nil=>rfl
 | cons x r ih=>rw [List.map_cons,ih (fun y hy=>h y (by simp [hy]))];simp [h x (by simp)]
theorem set_perm (t:Tb) (m:List UInt8) (n how:Nat) (hn:(t.map (·.1)).Nodup):((m,n,how) :: t.filter (fun x=>!(x.1 == m))).Perm (setT t m n how):=by
 unfold setT
 cases hg:(getT t m).isSome with
 | false=>
  have hno:=getT_none (by simpa using hg)
  rw [drop_none t m hno]
  exact (List.perm_append_singleton _ _).symm
 | true=>
  simp only [if_true]
  induction t with
  | nil=>simp [getT] at hg
  | cons x r ih=>
   rw [List.map_cons,List.nodup_cons] at hn
   by_cases hx:x.1=m
   ·have hno:∀ y∈r,y.1≠m:=fun y hy e=>hn.1 (by rw [hx,← e];exact List.mem_map_of_mem hy)
    rw [List.filter_cons,List.map_cons,same_none r m n how hno,drop_none r m hno]
    simp [hx]
   ·have hg2:(getT r m).isSome=true:=by
     unfold getT at hg ⊢
     rw [List.find?_cons,show (x.1 == m)=false by simpa using hx] at hg
     exact hg
    rw [List.filter_cons,List.map_cons,show (x.1 == m)=false by simpa using hx]
    simp only [Bool.not_false,if_true,Bool.false_eq_true,if_false]
    refine (List.Perm.swap _ _ _).trans ?_
    exact (ih hn.2 hg2).cons x
theorem set_names (t:Tb) (m:List UInt8) (n how:Nat) (hn:(t.map (·.1)).Nodup):((setT t m n how).map (·.1)).Nodup:=by
 have hp:=(set_perm t m n how hn).map (·.1)
 refine hp.nodup_iff.1 ?_
 rw [List.map_cons,List.nodup_cons]
 refine ⟨?_,hn.sublist (List.Sublist.map _ List.filter_sublist)⟩
 intro hm
 obtain ⟨x,hx,he⟩:=List.mem_map.1 hm
 have:=(List.mem_filter.1 hx).2
 simp at this
 exact this he
theorem TabD.put {D:DU} {t:Tb} (h:TabD D t) (m:List UInt8) (hm:m.length<=1000) (n how:Nat) (hn:n<=65535):TabD (D.put (litS m) (symD m n how)) (setT t m n how):=by
 obtain ⟨es,rfl,hp,hnd,hL⟩:=h
 refine ⟨_,DataW.put_eq es (litS m) (symD m n how),?_,set_names t m n how hnd,fun x hx=>?_⟩
 rotate_left
 ·rcases List.mem_cons.1 ((set_perm t m n how hnd).mem_iff.2 hx) with rfl | h2
  ·exact ⟨hm,hn⟩
  ·exact hL x (List.mem_filter.1 h2).1
 unfold ChangeMaps.putKey
 refine (WideShapes.insert_perm _ _).trans ?_
 refine ((hp.filter _).cons _).trans ?_
 have e1:(t.map entS).filter (ChangeMaps.notKey (litS m))=(t.filter fun x=>!(x.1 == m)).map entS:=by
  rw [List.filter_map]
  congr 1
 rw [e1]
 exact (set_perm t m n how hnd).map entS
theorem TabD.drop {D:DU} {t:Tb} (h:TabD D t) (pd:Lit->DU->Bool) (k:Nat) (hpd:∀ m n j,pd (litS m) (symD m n j)=(j == k)):TabD (Lib.deleteFuncD pd D) (t.filter fun x=>x.2.2 != k):=by
 obtain ⟨es,rfl,hp,hn,hL⟩:=h
 refine ⟨_,rfl,?_,?_,fun x hx=>hL x (List.mem_filter.1 hx).1⟩
 ·refine (hp.filter _).trans ?_
  rw [List.filter_map]
  refine List.Perm.map _ (List.Perm.of_eq ?_)
  refine List.filter_congr (fun x _=>?_)
  show (!pd (litS x.1) (symD x.1 x.2.1 x.2.2))=_
  rw [hpd]
  rfl
 ·exact hn.sublist (List.Sublist.map _ (List.filter_sublist))
abbrev sIF:List UInt8:=[73,70]
abbrev sENDIF:List UInt8:=[69,78,68,73,70]
abbrev sEND:List UInt8:=[69,78,68]
abbrev sORG:List UInt8:=[79,82,71]
abbrev sDS:List UInt8:=[68,83]
abbrev sDW:List UInt8:=[68,87]
def dirA (op:List UInt8):Option (Nat × Nat):=
 if op=sENDIF∨op = [] then some (0,0) else if op=sEND then some (0,1)
 else if op=sORG∨op=sEQU∨op=sSET∨op=sDS∨op=sIF then some (1,1)
 else if op=sDB∨op=sDW then some (1,32) else none
def plainA (a:Ar):Bool:=a.w == [] && !a.is && !a.mem
def laidA (s:St) (least most:Nat):Bool:=decide (least<=s.args.length) && decide (s.args.length<=most) && s.args.all (fun a=>plainA a || (a.is && s.op == sDB))
def byteA (n:Nat):Nat × Nat:=if n / 256≠0/\n<65408 then (0,5) else (n % 256,0)
structure Lin where
 n:Nat
 pl:Nat
 kind:Nat
 b:List UInt8
 v:Nat
 e:Ex
abbrev Dst:=List Bool × Bool
structure Cd where
 size:Nat
 e:Option Nat
 bytes:Nat->Nat->Dst->(List UInt8 × Nat × Nat) × Dst
abbrev Fd:=Dst->St->Nat->Option Cd
structure Eg where
 pl:Nat
 op:List (Bool × Nat)
 done:Bool
 has:Bool
 syms:Tb
 entry:Nat
 lines:List Lin
 used:List Nat
 dl:Dst
def linB (l:Lin) (a:Nat):Option UInt8:=if l.pl<=a/\a<l.pl+l.b.length then l.b[a - l.pl]? else none
def imgL (ls:List Lin) (a:Nat):Option UInt8:=ls.findSome? (linB · a)
def clashL (ls:List Lin) (pl:Nat) (b:List UInt8):Bool:=(List.range b.length).any fun i=>(imgL ls (pl+i)).isSome
def putIK (ls:List Lin) (pl:Nat) (b:List UInt8):Nat:=if 65536<b.length∨65536 - b.length<pl then 7 else if clashL ls pl b then 6 else 0
def evP (here:Nat) (val:List UInt8->Nat × Nat) (e:Ex):Nat × Nat:=if rightE e 24 then evalE here val e else (0,2)
def countsA (g:Eg):Bool:=g.op.all (·.1)
def evA (g:Eg) (e:Ex):Nat × Nat:=evP (g.pl % 65536) (valT g.syms) e
def arg0 (s:St):Ex:=(s.args.getD 0 ar0).e
def layA (sec:Bool) (g:Eg) (l:Lin) (size:Nat):Eg × Nat:=
 if 65536 - g.pl<size then (g,7)
 else if sec=false then ({ g with pl:=g.pl+size },0)
 else if putIK g.lines g.pl l.b≠0 then (g,putIK g.lines g.pl l.b)
 else ({ g with pl:=g.pl+size,lines:=g.lines++[{ l with pl:=g.pl % 65536 }],has:=g.has || l.kind == 1,entry:=if l.kind=1/\g.has=false then g.pl % 65536 else g.entry },0)
def dataL (sec:Bool) (ev:Ex->Nat × Nat) (op:List UInt8):List Ar->List UInt8->List UInt8 × Nat
 | [],acc=>(acc,0)
 | a :: r,acc=>
  if a.is then dataL sec ev op r (acc++a.t)
  else if (if sec then ev a.e else (0,0)).2≠0 then ([],(if sec then ev a.e else (0,0)).2)
  else if op=sDW then dataL sec ev op r (acc++[UInt8.ofNat ((if sec then ev a.e else (0,0)).1 % 256),UInt8.ofNat ((if sec then ev a.e else (0,0)).1 / 256)])
  else if (byteA (if sec then ev a.e else (0,0)).1).2≠0 then ([],5)
  else dataL sec ev op r (acc++[UInt8.ofNat (byteA (if sec then ev a.e else (0,0)).1).1])
def branchA (s:St) (i:Nat) (g:Eg):Eg × Nat:=
 if s.label≠[]∨laidA s ((dirA s.op).getD (0,0)).1 ((dirA s.op).getD (0,0)).2=false then (g,2)
 else if s.op=sENDIF then (if g.op = [] then (g,2) else ({ g with op:=g.op.dropLast },0))
 else if g.op.length=8 then (g,11)
 else if countsA g then (if (evA g (arg0 s)).2≠0 then (g,(evA g (arg0 s)).2) else ({ g with op:=g.op++[((evA g (arg0 s)).1 != 0,i+1)] },0))
 else ({ g with op:=g.op++[(false,i+1)] },0)
def symA (g:Eg) (m:List UInt8) (n how:Nat):Eg × Nat:=if putK g.syms m how≠0 then (g,putK g.syms m how) else ({ g with syms:=setT g.syms m n how },0)
def directA (sec:Bool) (s:St) (i:Nat) (g:Eg):Eg × Nat:=
 if s.op = [] then (g,0)
 else if s.op=sDB∨s.op=sDW then
  (if (dataL sec (evA g) s.op s.args []).2≠0 then (g,(dataL sec (evA g) s.op s.args []).2)
  else layA sec g ⟨i+1,0,2,(dataL sec (evA g) s.op s.args []).1,0,ex0⟩ (dataL sec (evA g) s.op s.args []).1.length)
 else if s.op=sEND then
  (if s.args = []∨sec=false∨g.op≠[] then ({ g with done:=true },0) else ({ g with done:=true,entry:=(evA g (arg0 s)).1 },(evA g (arg0 s)).2))
 else if (evA g (arg0 s)).2≠0 then (g,(evA g (arg0 s)).2)
 else if s.op=sORG then ({ g with pl:=(evA g (arg0 s)).1 },0)
 else if s.op=sDS then layA sec g ⟨i+1,0,3,[],(evA g (arg0 s)).1,arg0 s⟩ (evA g (arg0 s)).1
 else if s.op=sSET then symA g s.label (evA g (arg0 s)).1 3
 else if sec=false then symA g s.label (evA g (arg0 s)).1 2
 else (g,0)
def labelA (sec:Bool) (g:Eg) (m:List UInt8):Eg × Nat:=if 65536<=g.pl then (g,7) else if sec then (g,0) else symA g m g.pl 1
def argE (s:St) (e:Option Nat):Ex:=match e with
 | some k=>(s.args.getD k ar0).e
 | none=>ex0
def instrA (sec:Bool) (c:Cd) (s:St) (i:Nat) (g:Eg):Eg × Nat:=
 if sec=false then layA sec g ⟨i+1,0,1,[],0,ex0⟩ c.size
 else if (if c.e=none then (0,0) else evA g (argE s c.e)).2≠0 then (g,(if c.e=none then (0,0) else evA g (argE s c.e)).2)
 else if (c.bytes g.pl (if c.e=none then (0,0) else evA g (argE s c.e)).1 g.dl).1.2.2≠0 then (g,(c.bytes g.pl (if c.e=none then (0,0) else evA g (argE s c.e)).1 g.dl).1.2.2)
 else layA sec { g with dl:=(c.bytes g.pl (if c.e=none then (0,0) else evA g (argE s c.e)).1 g.dl).2 }
  ⟨i+1,0,1,(c.bytes g.pl (if c.e=none then (0,0) else evA g (argE s c.e)).1 g.dl).1.1,(c.bytes g.pl (if c.e=none then (0,0) else evA g (argE s c.e)).1 g.dl).1.2.1,argE s c.e⟩ c.size
def bodyA (fd:Fd) (sec:Bool) (s:St) (i:Nat) (g:Eg):Eg × Nat:=match dirA s.op with
 | some _=>directA sec s i g
 | none=>match fd g.dl s i with
  | some c=>instrA sec c s i g
  | none=>(g,2)
def foundA (fd:Fd) (s:St) (i:Nat) (g:Eg):Bool:=match dirA s.op with
 | some p=>laidA s p.1 p.2
 | none=>(fd g.dl s i).isSome
def oneA (fd:Fd) (sec:Bool) (s:St) (i:Nat) (g:Eg):Eg × Nat:=
 if s.op=sIF∨s.op=sENDIF then branchA s i g
 else if countsA g=false then (g,0)
 else if foundA fd s i g=false then (g,2)
 else if s.colon then
  (if (labelA sec { g with used:=g.used++[i+1] } s.label).2≠0 then (g,(labelA sec { g with used:=g.used++[i+1] } s.label).2)
  else bodyA fd sec s i (labelA sec { g with used:=g.used++[i+1] } s.label).1)
 else bodyA fd sec s i { g with used:=g.used++[i+1] }
def endA (g:Eg):Eg × Nat × Nat:=if g.op≠[] then (g,(g.op.getLastD (false,0)).2,2) else (g,0,0)
def passL (fd:Fd) (sec:Bool):List St->Nat->Eg->Eg × Nat × Nat
 | [],_,g=>endA g
 | s :: r,i,g=>if g.done then endA g else if (oneA fd sec s i g).2≠0 then (g,i+1,(oneA fd sec s i g).2) else passL fd sec r (i+1) (oneA fd sec s i g).1
def eg0 (t:Tb) (dl:Dst):Eg:=⟨0,[],false,false,forgetT t,0,[],[],dl⟩
def passA (fd:Fd) (sec:Bool) (l:List St) (t:Tb) (dl:Dst):Eg × Nat × Nat:=passL fd sec l 0 (eg0 t dl)
def eg1:Eg:=eg0 [] ([],false)
abbrev sRST:List UInt8:=[82,83,84]
def find80 (name:List UInt8) (ws:List (List UInt8)):Option Nat:=(List.range 256).find? fun op=>words80 op == name :: ws
def lohi (n:Nat):List UInt8:=[UInt8.ofNat (n % 256),UInt8.ofNat (n / 256)]
def bytes80 (op n:Nat):List UInt8 × Nat:=
 if size80 op=0 then ([],8) else if size80 op<3/\n / 256≠0∨size80 op<2/\n≠0 then ([],5) else ((UInt8.ofNat op :: lohi n).take (size80 op),0)
def lastA:List Ar->Nat->Option Nat->Option Nat
 | [],_,e=>e
 | a :: r,i,e=>lastA r (i+1) (if plainA a then some i else e)
def form80 (num:List UInt8) (l:List Ar):List (List UInt8):=l.map fun a=>if plainA a then num else a.w
def rst80A (v:Nat):List UInt8 × Nat × Nat:=if 7<v then ([],0,5) else ([UInt8.ofNat (199+v * 8)],v,0)
def opA80 (op size v:Nat):List UInt8 × Nat × Nat:=
 if size=1 then (if (byteA v).2≠0 then ([],0,(byteA v).2) else ((bytes80 op (byteA v).1).1,v,(bytes80 op (byteA v).1).2))
 else ((bytes80 op v).1,v,(bytes80 op v).2)
def num80 (size:Nat):List UInt8:=if size=0 then [] else if size=1 then sD8 else sD16
def try80 (s:St) (size:Nat):Option Cd:=
 match find80 s.op (form80 (num80 size) s.args) with
 | some op=>if (0<size)=((lastA s.args 0 none).isSome=true) then some ⟨size+1,lastA s.args 0 none,fun _ v t=>(opA80 op size v,t)⟩ else none
 | none=>none
def fd80:Fd:=fun _ s _=>
 if s.op=sRST then (if s.args.length=1/\plainA (s.args.getD 0 ar0) then some ⟨1,some 0,fun _ v t=>(rst80A v,t)⟩ else none)
 else match try80 s 0 with
  | some c=>some c
  | none=>match try80 s 1 with
   | some c=>some c
   | none=>try80 s 2
def runF (F:Fd) (l:List St):Eg × Nat × Nat:=
 if (passA F false l [] ([],false)).2.2≠0 then passA F false l [] ([],false) else passA F true l (passA F false l [] ([],false)).1.syms ([],false)
def asmF (F:Fd) (d:Int) (src:List UInt8):Eg × Nat × Nat:=if (srcS d src).2.2≠0 then (eg1,(srcS d src).2) else runF F (srcS d src).1
abbrev sLAHF:List UInt8:=[76,65,72,70]
abbrev sSAHF:List UInt8:=[83,65,72,70]
abbrev sHLT:List UInt8:=[72,76,84]
abbrev sINC:List UInt8:=[73,78,67]
abbrev sMOV:List UInt8:=[77,79,86]
abbrev sBX:List UInt8:=[66,88]
def cdC (b:List UInt8):Cd:=⟨b.length,none,fun _ v t=>((b,v,0),t)⟩
def cdM:Cd:=⟨3,some 1,fun _ v t=>((187 :: lohi v,v,0),t)⟩
def fdC:Fd:=fun _ s _=>
 if s.op=sLAHF then some (cdC [159]) else if s.op=sSAHF then some (cdC [158]) else if s.op=sHLT then some (cdC [244]) else if s.op=sINC then some (cdC [67])
 else if s.op=sMOV/\s.args.length=2 then some cdM else none
def InsC (s:St):Prop:=(s.args = []/\(s.op=sLAHF∨s.op=sSAHF∨s.op=sHLT))∨(s.op=sINC/\s.args = [wordA sBX])∨(s.op=sMOV/\∃ n,n<=65535/\s.args = [wordA sBX,numA n])∨s.op=sEND
abbrev xt1:List UInt8:=[76,48,48,48,48,58,32,76,65,72,70,10,73,78,67,32,66,88,10,83,65,72,70,10,76,48,48,48,49,58,32,72,76,84,10,69,78,68,32,76,48,48,48,48,10]
abbrev xt2:List UInt8:=[76,48,48,48,48,58,32,77,79,86,32,66,88,44,52,10,76,48,48,48,51,58,32,72,76,84,10,69,78,68,32,76,48,48,48,48,10]
theorem src_xt1:srcS 2 xt1=([⟨[76,48,48,48,48],true,sLAHF,[]⟩,⟨[],false,sINC,[wordA sBX]⟩,⟨[],false,sSAHF,[]⟩,⟨[76,48,48,48,49],true,sHLT,[]⟩,⟨[],false,sEND,[nameA [76,48,48,48,48]]⟩],0,0):=by kernel_rfl
theorem src_xt2:srcS 2 xt2=([⟨[76,48,48,48,48],true,sMOV,[wordA sBX,numA 4]⟩,⟨[76,48,48,48,51],true,sHLT,[]⟩,⟨[],false,sEND,[nameA [76,48,48,48,48]]⟩],0,0):=by kernel_rfl
theorem asm_xt1:(asmF fdC 2 xt1).2=(0,0):=by decide +kernel
theorem asm_xt2:(asmF fdC 2 xt2).2=(0,0):=by decide +kernel
theorem insC_xt1:∀ x∈(srcS 2 xt1).1,InsC x:=by
 rw [src_xt1]
 intro x hx
 simp only [List.mem_cons,List.not_mem_nil,or_false] at hx
 rcases hx with rfl | rfl | rfl | rfl | rfl
 ·exact .inl ⟨rfl,.inl rfl⟩
 ·exact .inr (.inl ⟨rfl,rfl⟩)
 ·exact .inl ⟨rfl,.inr (.inl rfl)⟩
 ·exact .inl ⟨rfl,.inr (.inr rfl)⟩
 ·exact .inr (.inr (.inr rfl))
theorem insC_xt2:∀ x∈(srcS 2 xt2).1,InsC x:=by
 rw [src_xt2]
 intro x hx
 simp only [List.mem_cons,List.not_mem_nil,or_false] at hx
 rcases hx with rfl | rfl | rfl
 ·exact .inr (.inr (.inl ⟨rfl,4,by decide,rfl⟩))
 ·exact .inl ⟨rfl,.inr (.inr rfl)⟩
 ·exact .inr (.inr (.inr rfl))
end Go.Proofs.YtbdnbfacalfciaaGreatDoor
