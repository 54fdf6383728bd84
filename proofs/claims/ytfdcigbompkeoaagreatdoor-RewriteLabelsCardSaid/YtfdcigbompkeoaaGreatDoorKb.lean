/- Kb. -/
import Derived.Test.YtfdcigbompkeoaaGreatDoorKa
namespace Go.Proofs.YtfdcigbompkeoaaGreatDoor
inductive Ex where
 | mk (op:List UInt8) (n:Nat) (name:List UInt8) (sub:List Ex)
namespace Ex
def op:Ex->List UInt8
 | .mk o _ _ _=>o
def n:Ex->Nat
 | .mk _ n _ _=>n
def name:Ex->List UInt8
 | .mk _ _ m _=>m
def sub:Ex->List Ex
 | .mk _ _ _ s=>s
end Ex
theorem Ex.ind {P:Ex->Prop} (h:∀ o n m s,(∀ e∈s,P e)->P (.mk o n m s)) (e:Ex):P e:=
 Ex.rec (motive_1:=P) (motive_2:=fun l=>∀ e∈l,P e) h (by simp) (fun _ _ h1 h2=>by simpa using ⟨h1,h2⟩) e
def ex0:Ex:=.mk [] 0 [] []
abbrev sNum:List UInt8:=[35]
abbrev sN:List UInt8:=[110]
abbrev sHere:List UInt8:=[36]
abbrev sNEG:List UInt8:=[78,69,71]
abbrev sNOT:List UInt8:=[78,79,84]
abbrev sAND:List UInt8:=[65,78,68]
abbrev sOR:List UInt8:=[79,82]
abbrev sXOR:List UInt8:=[88,79,82]
abbrev sMOD:List UInt8:=[77,79,68]
abbrev sSHL:List UInt8:=[83,72,76]
abbrev sSHR:List UInt8:=[83,72,82]
def bindsE (o:List UInt8):Nat × Nat:=
 if o=sNum∨o=sN∨o=sHere then (7,0)
 else if o=sNEG then (6,1)
 else if o = [42]∨o = [47]∨o=sMOD∨o=sSHL∨o=sSHR then (5,2)
 else if o = [43]∨o = [45] then (4,2)
 else if o=sNOT then (3,1)
 else if o=sAND then (2,2)
 else if o=sOR∨o=sXOR then (1,2)
 else (0,0)
def wordE (o:List UInt8):Bool:=decide (o=sOR∨o=sXOR∨o=sAND∨o=sNOT∨o=sMOD∨o=sSHL∨o=sSHR)
mutual
def deepE:Ex->Nat
 | .mk _ _ _ s=>deepL s+1
def deepL:List Ex->Nat
 | []=>0
 | e :: r=>max (deepE e) (deepL r)
end
def headE (o:List UInt8) (n:Nat) (m:List UInt8) (k:Nat):Bool:=
 !((bindsE o).1 == 0) && k == (bindsE o).2 && (n == 0 || o == sNum) && (if o=sN then nameB m && upper m == m && !wordE m else m == [])
mutual
def rightE:Ex->Nat->Bool
 | .mk o n m s,most=>!(most == 0) && headE o n m s.length && rightL s (most - 1)
def rightL:List Ex->Nat->Bool
 | [],_=>true
 | e :: r,most=>rightE e most && rightL r most
end
mutual
def sameE:Ex->Ex->Bool
 | .mk o n m s,.mk o' n' m' s'=>o == o' && n == n' && m == m' && sameL s s'
def sameL:List Ex->List Ex->Bool
 | [],[]=>true
 | e :: r,e' :: r'=>sameE e e' && sameL r r'
 | _,_=>false
end
mutual
def namesE:Ex->List (List UInt8)
 | .mk o _ m s=>(if o=sN then [m] else [])++namesL s
def namesL:List Ex->List (List UInt8)
 | []=>[]
 | e :: r=>namesE e++namesL r
end
def parens (s:List UInt8):List UInt8:=[40,32]++s++[32,41]
def showE:Ex->Nat->List UInt8
 | .mk o n m s,want=>
  if o=sNum then showN n else if o=sN then m else if (bindsE o).2=0 then o
  else
   let t:=match s with
    | [a]=>(if o=sNEG then [45] else o)++32 :: showE a (bindsE o).1
    | [a,b]=>showE a (bindsE o).1++32 :: (o++32 :: showE b ((bindsE o).1+1))
    | _=>[]
   if (bindsE o).1<want then parens t else t
def opT (o:List UInt8):Tok:=if wordE o then (1,o,0) else (4,o,0)
def toksE:Ex->Nat->List Tok
 | .mk o n m s,want=>
  if o=sNum then [(2,[],n)] else if o=sN then [(1,m,0)] else if (bindsE o).2=0 then [(4,o,0)]
  else
   let t:=match s with
    | [a]=>(if o=sNEG then (4,[45],0) else opT o) :: toksE a (bindsE o).1
    | [a,b]=>toksE a (bindsE o).1++opT o :: toksE b ((bindsE o).1+1)
    | _=>[]
   if (bindsE o).1<want then (4,[40],0) :: (t++[(4,[41],0)]) else t
def twoE (o:List UInt8) (a b:Nat):Nat × Nat:=
 if o=sOR then (a ||| b,0) else if o=sXOR then (a ^^^ b,0) else if o=sAND then (a &&& b,0)
 else if o = [43] then ((a+b) % 65536,0) else if o = [45] then ((a+65536 - b) % 65536,0) else if o = [42] then ((a * b) % 65536,0)
 else if o=sSHL then ((a * 2 ^ b) % 65536,0) else if o=sSHR then (a / 2 ^ b,0)
 else if b=0 then (0,5) else if o = [47] then (a / b,0) else (a % b,0)
def evalE (here:Nat) (val:List UInt8->Nat × Nat):Ex->Nat × Nat
 | .mk o n m s=>
  if o=sNum then (n,0) else if o=sHere then (here,0) else if o=sN then val m
  else match s with
   | [a]=>
    let x:=evalE here val a
    if x.2≠0 then (0,x.2) else if o=sNOT then (65535 - x.1,0) else ((65536 - x.1) % 65536,0)
   | [a,b]=>
    let x:=evalE here val a
    if x.2≠0 then (0,x.2) else
     let y:=evalE here val b
     if y.2≠0 then (0,y.2) else twoE o x.1 y.1
   | _=>(0,0)
structure PS where
 ts:List Tok
 k:Nat
 op:Nat
def atT (ts:List Tok) (kind:Int) (ls:List (List UInt8)):Option (List UInt8):=
 match ts with
 | []=>none
 | t :: _=>if t.1=kind/\t.2.1∈ls then some t.2.1 else none
def operT (r:Nat) (ts:List Tok):Option (List UInt8):=
 if r=1 then atT ts 1 [sOR,sXOR] else if r=2 then atT ts 1 [sAND] else if r=4 then atT ts 4 [[43],[45]]
 else match atT ts 4 [[42],[47]] with
  | some o=>some o
  | none=>atT ts 1 [sMOD,sSHL,sSHR]
def PS.fail (s:PS) (k:Nat):PS:=if s.k=0 then { s with k:=k } else s
def PS.skip (s:PS):PS:={ s with ts:=s.ts.drop 1 }
def wIn (go:PS->Ex × PS) (s:PS):Ex × PS:=
 let s1:PS:={ s with op:=s.op+1 }
 if 48<s1.op then (ex0,s1.fail 11) else
  let p:=go s1
  (p.1,{ p.2 with op:=p.2.op - 1 })
def atomP (go:PS->Ex × PS) (s:PS):Ex × PS:=
 match s.ts with
 | []=>(ex0,s.fail 2)
 | t :: _=>
  if t.1=1 then (if wordE t.2.1 then (ex0,s.skip.fail 2) else (.mk sN 0 t.2.1 [],s.skip))
  else if t.1=2 then (.mk sNum t.2.2 [] [],s.skip)
  else if t.1=3 then (if (valueL t.2.1).2=0 then (.mk sNum (valueL t.2.1).1 [] [],s.skip) else (ex0,s.skip.fail (valueL t.2.1).2))
  else if t.1=4 then
   (if t.2.1=sHere then (.mk sHere 0 [] [],s.skip)
   else if t.2.1 = [40] then
    let p:=wIn go s.skip
    if (atT p.2.ts 4 [[41]]).isSome then (p.1,p.2.skip) else (ex0,p.2.fail 2)
   else (ex0,s.skip.fail 2))
  else (ex0,s.skip.fail 2)
mutual
def pP:Nat->Nat->PS->Ex × PS
 | 0,_,s=>(ex0,s)
 | f+1,r,s=>
  if r=3 then
   (if (atT s.ts 1 [sNOT]).isSome then
    let p:=wIn (pP f 3) s.skip
    (.mk sNOT 0 [] [p.1],p.2)
   else pP f 4 s)
  else if r=6 then
   (if (atT s.ts 4 [[45]]).isSome then
    let p:=wIn (pP f 6) s.skip
    (.mk sNEG 0 [] [p.1],p.2)
   else pP f 7 s)
  else if r=7 then atomP (pP f 1) s
  else
   let p:=pP f (r+1) s
   lP f r p.1 p.2
def lP:Nat->Nat->Ex->PS->Ex × PS
 | 0,_,e,s=>(e,s)
 | f+1,r,e,s=>
  if s.k=0 then
   match operT r s.ts with
   | none=>(e,s)
   | some o=>
    let p:=pP f (r+1) s.skip
    lP f r (.mk o 0 [] [e,p.1]) p.2
  else (e,s)
end
def parseE (ts:List Tok):Ex × Nat × Nat:=
 let p:=pP (8 * ts.length+7) 1 ⟨ts,0,0⟩
 if p.2.k≠0 then (ex0,0,p.2.k) else if 24<deepE p.1 then (ex0,0,11) else (p.1,ts.length - p.2.ts.length,0)
def allE (ts:List Tok):Ex × Nat:=
 let p:=parseE ts
 if p.2.2≠0 then (ex0,p.2.2) else if p.2.1<ts.length then (ex0,2) else (p.1,0)
theorem sameL_iff (s:List Ex) (h:∀ e∈s,∀ x,sameE e x=true ↔ e=x):∀ t,sameL s t=true ↔ s=t:=by
 induction s with
 | nil=>intro t;cases t <;> simp [sameL]
 | cons a s ih=>
  intro t
  cases t with
  | nil=>simp [sameL]
  | cons b t=>
   simp only [sameL,Bool.and_eq_true]
   rw [h a (by simp) b,ih (fun e he=>h e (by simp [he])) t]
   simp
theorem sameE_iff (e:Ex):∀ x,sameE e x=true ↔ e=x:=by
 induction e using Ex.ind with
 | h o n m s ih=>
  intro x
  obtain ⟨o',n',m',s'⟩:=x
  simp only [sameE,Bool.and_eq_true,beq_iff_eq]
  rw [sameL_iff s ih s']
  simp [and_assoc]
theorem sameE_refl (e:Ex):sameE e e=true:=(sameE_iff e e).2 rfl
def Inv (s q:PS):Prop:=q.ts.length<=s.ts.length/\(s.op<=48->s.op<=q.op/\q.op<=49/\(q.k=0->q.op=s.op))/\(s.k<=11->q.k<=11)
theorem Inv.refl (s:PS):Inv s s:=⟨Nat.le_refl _,fun h=>⟨Nat.le_refl _,by omega,fun _=>rfl⟩,id⟩
theorem Inv.fail {s q:PS} (h:Inv s q) (k:Nat) (hk:k≠0) (hk2:k<=11):Inv s (q.fail k):=by
 unfold PS.fail
 split
 ·exact ⟨h.1,fun hs=>⟨(h.2.1 hs).1,(h.2.1 hs).2.1,fun h0=>absurd h0 hk⟩,fun _=>hk2⟩
 ·exact h
theorem Inv.skip {s q:PS} (h:Inv s q):Inv s q.skip:=⟨by unfold PS.skip;simp;have:=h.1;omega,h.2.1,h.2.2⟩
theorem Inv.then {s q u:PS} (h:Inv s q) (h1:q.k=0->Inv q u) (h2:q.k≠0->u=q):Inv s u:=by
 by_cases hk:q.k=0
 ·have g:=h1 hk
  refine ⟨Nat.le_trans g.1 h.1,fun hs=>?_,fun hs=>g.2.2 (h.2.2 hs)⟩
  have a:=h.2.1 hs
  have e:=a.2.2 hk
  have b:=g.2.1 (by omega)
  exact ⟨by omega,b.2.1,fun hu=>(b.2.2 hu).trans e⟩
 ·rw [h2 hk];exact h
theorem Inv.wIn {s:PS} {go:PS->Ex × PS} (h:∀ q,Inv q (go q).2):Inv s (wIn go s).2:=by
 unfold Proofs.YtfdcigbompkeoaaGreatDoor.wIn
 dsimp only
 split
 ·rename_i hc
  unfold PS.fail
  dsimp only
  split
  ·exact ⟨Nat.le_refl _,fun hs=>⟨by show s.op<=s.op+1;omega,by show s.op+1<=49;omega,fun h0=>by simp at h0⟩,fun _=>by show (11:Nat)<=11;omega⟩
  ·rename_i hk
   exact ⟨Nat.le_refl _,fun hs=>⟨by show s.op<=s.op+1;omega,by show s.op+1<=49;omega,fun h0=>absurd h0 hk⟩,id⟩
 ·rename_i hc
  have g:=h { s with op:=s.op+1 }
  refine ⟨g.1,fun hs=>?_,g.2.2⟩
  have a:=g.2.1 (by show s.op+1<=48;omega)
  dsimp only at a ⊢
  exact ⟨by omega,by omega,fun h0=>by have:=a.2.2 h0;omega⟩
theorem Inv.of_skip {s u:PS} (h:Inv s.skip u):Inv s u:=⟨by have:=h.1;unfold PS.skip at this;simp at this;omega,h.2.1,h.2.2⟩
theorem valueL_le (l:List UInt8):(valueL l).2<=11/\(valueL l).1<=65535:=by
 unfold valueL
 split
 ·rename_i c;have:=c.toNat_lt;simp;omega
 ·rename_i c d;have:=c.toNat_lt;have:=d.toNat_lt;simp;omega
 ·simp
theorem Inv.atom {s:PS} {go:PS->Ex × PS} (h:∀ q,Inv q (go q).2):Inv s (atomP go s).2:=by
 unfold atomP
 have r:=Inv.refl s
 split
 ·exact r.fail 2 (by omega) (by omega)
 ·split
  ·split
   ·exact r.skip.fail 2 (by omega) (by omega)
   ·exact r.skip
  ·split
   ·exact r.skip
   ·split
    ·split
     ·exact r.skip
     ·rename_i hv;exact r.skip.fail _ hv (valueL_le _).1
    ·split
     ·split
      ·exact r.skip
      ·split
       ·have g:Inv s (Proofs.YtfdcigbompkeoaaGreatDoor.wIn go s.skip).2:=(Inv.wIn h).of_skip
        dsimp only
        split
        ·exact g.skip
        ·exact g.fail 2 (by omega) (by omega)
       ·exact r.skip.fail 2 (by omega) (by omega)
     ·exact r.skip.fail 2 (by omega) (by omega)
theorem pP_succ (f r:Nat) (s:PS):pP (f+1) r s=if r=3 then (if (atT s.ts 1 [sNOT]).isSome then (.mk sNOT 0 [] [(wIn (pP f 3) s.skip).1],(wIn (pP f 3) s.skip).2) else pP f 4 s)
  else if r=6 then (if (atT s.ts 4 [[45]]).isSome then (.mk sNEG 0 [] [(wIn (pP f 6) s.skip).1],(wIn (pP f 6) s.skip).2) else pP f 7 s)
  else if r=7 then atomP (pP f 1) s else lP f r (pP f (r+1) s).1 (pP f (r+1) s).2:=by rw [pP]
theorem lP_succ (f r:Nat) (e:Ex) (s:PS):lP (f+1) r e s=if s.k=0 then (match operT r s.ts with | none=>(e,s) | some o=>lP f r (.mk o 0 [] [e,(pP f (r+1) s.skip).1]) (pP f (r+1) s.skip).2) else (e,s):=by rw [lP] <;> rfl
theorem lP_none (f r:Nat) (e:Ex) (s:PS) (h:s.k≠0∨operT r s.ts=none):lP f r e s=(e,s):=by
 cases f with
 | zero=>rfl
 | succ f=>
  rw [lP_succ]
  by_cases hk:s.k=0
  ·rcases h with h | h
   ·exact absurd hk h
   ·rw [if_pos hk,h]
  ·rw [if_neg hk]
theorem pP_inv:∀ f,(∀ r s,Inv s (pP f r s).2)/\(∀ r e s,Inv s (lP f r e s).2):=by
 intro f
 induction f with
 | zero=>exact ⟨fun r s=>Inv.refl s,fun r e s=>Inv.refl s⟩
 | succ f ih=>
  refine ⟨fun r s=>?_,fun r e s=>?_⟩
  ·rw [pP_succ]
   split
   ·split
    ·exact (Inv.wIn (ih.1 3)).of_skip
    ·exact ih.1 4 s
   ·split
    ·split
     ·exact (Inv.wIn (ih.1 6)).of_skip
     ·exact ih.1 7 s
    ·split
     ·exact Inv.atom (ih.1 1)
     ·exact (ih.1 (r+1) s).then (fun _=>ih.2 r _ _) (fun hk=>by rw [lP_none _ _ _ _ (.inl hk)])
  ·rw [lP_succ]
   split
   ·split
    ·exact Inv.refl s
    ·exact (ih.1 (r+1) s.skip).of_skip.then (fun _=>ih.2 r _ _) (fun hk=>by rw [lP_none _ _ _ _ (.inl hk)])
   ·exact Inv.refl s
def stopT (r:Nat) (rest:List Tok):Prop:=∀ r',r<=r'->r'=1∨r'=2∨r'=4∨r'=5->operT r' rest=none
theorem stopT.up {r r':Nat} {rest:List Tok} (h:stopT r rest) (hr:r<=r'):stopT r' rest:=fun x hx=>h x (by omega)
def Pok (r:Nat) (T:List Tok) (e:Ex) (D:Nat):Prop:=∀ (f:Nat) (s:PS) (rest:List Tok),s.k=0->s.ts=T++rest->s.op+D<=48->stopT r rest->8 * s.ts.length+(8 - r)<=f->pP f r s=(e,{ s with ts:=rest })
def Qok (r:Nat) (T:List Tok) (e:Ex) (D:Nat):Prop:=∀ (f:Nat) (s:PS) (rest:List Tok),s.k=0->s.ts=T++rest->s.op+D<=48->stopT (r+1) rest->8 * s.ts.length+(8 - r)<=f->∃ f',8 * rest.length+(7 - r)<=f'/\pP f r s=lP f' r e { s with ts:=rest }
theorem Pok.more {r:Nat} {T:List Tok} {e:Ex} {D D':Nat} (h:Pok r T e D) (hD:D<=D'):Pok r T e D':=fun f s rest h1 h2 h3 h4 h5=>h f s rest h1 h2 (by omega) h4 h5
theorem Qok.more {r:Nat} {T:List Tok} {e:Ex} {D D':Nat} (h:Qok r T e D) (hD:D<=D'):Qok r T e D':=fun f s rest h1 h2 h3 h4 h5=>h f s rest h1 h2 (by omega) h4 h5
def binR (r:Nat):Prop:=r=1∨r=2∨r=4∨r=5
theorem Pok.q {r:Nat} {T:List Tok} {e:Ex} {D:Nat} (hr:binR r) (h:Pok (r+1) T e D):Qok r T e D:=by
 intro f s rest h1 h2 h3 h4 h5
 have hlen:s.ts.length=T.length+rest.length:=by rw [h2];simp
 obtain ⟨g,rfl⟩:∃ g,f=g+1:=⟨f - 1,by unfold binR at hr;omega⟩
 refine ⟨g,by unfold binR at hr;omega,?_⟩
 have:=h g s rest h1 h2 h3 h4 (by unfold binR at hr;omega)
 rw [pP_succ,if_neg (by unfold binR at hr;omega),if_neg (by unfold binR at hr;omega),if_neg (by unfold binR at hr;omega),this]
theorem Qok.p {r:Nat} {T:List Tok} {e:Ex} {D:Nat} (hr:binR r) (h:Qok r T e D):Pok r T e D:=by
 intro f s rest h1 h2 h3 h4 h5
 obtain ⟨f',_,e'⟩:=h f s rest h1 h2 h3 (h4.up (by omega)) h5
 rw [e',lP_none _ _ _ _ (.inr (h4 r (Nat.le_refl _) hr))]
theorem Pok.down {r:Nat} {T:List Tok} {e:Ex} {D:Nat} (hr:binR r) (h:Pok (r+1) T e D):Pok r T e D:=(h.q hr).p hr
theorem Qok.two {r:Nat} {T1 T2:List Tok} {a b:Ex} {D:Nat} {o:List UInt8} {t:Tok} (ha:Qok r T1 a D) (hb:Pok (r+1) T2 b D) (ho:∀ X,operT r (t :: X)=some o) (hs:∀ X,stopT (r+1) (t :: X)):Qok r (T1++t :: T2) (.mk o 0 [] [a,b]) D:=by
 intro f s rest h1 h2 h3 h4 h5
 have h2':s.ts=T1++(t :: (T2++rest)):=by rw [h2];simp
 obtain ⟨f',hf,e'⟩:=ha f s _ h1 h2' h3 (hs _) h5
 simp at hf
 obtain ⟨g,rfl⟩:∃ g,f'=g+1:=⟨f' - 1,by omega⟩
 refine ⟨g,by omega,?_⟩
 rw [e',lP_succ,if_pos h1]
 simp only [ho]
 have:=hb g ({ s with ts:=t :: (T2++rest) }:PS).skip rest h1 (by simp [PS.skip]) h3 h4 (by simp [PS.skip];omega)
 rw [this]
 rfl
theorem atT_cons (t:Tok) (X:List Tok) (k:Int) (ls:List (List UInt8)):atT (t :: X) k ls=if t.1=k/\t.2.1∈ls then some t.2.1 else none:=rfl
theorem Pok.not {T:List Tok} {e:Ex} {D:Nat} (h:Pok 4 T e D) (hT:∀ X,atT (T++X) 1 [sNOT]=none):Pok 3 T e D:=by
 intro f s rest h1 h2 h3 h4 h5
 obtain ⟨g,rfl⟩:∃ g,f=g+1:=⟨f - 1,by omega⟩
 rw [pP_succ,if_pos rfl,h2,hT,if_neg (by simp)]
 exact h g s rest h1 h2 h3 (h4.up (by omega)) (by omega)
theorem Pok.neg {T:List Tok} {e:Ex} {D:Nat} (h:Pok 7 T e D) (hT:∀ X,atT (T++X) 4 [[45]]=none):Pok 6 T e D:=by
 intro f s rest h1 h2 h3 h4 h5
 obtain ⟨g,rfl⟩:∃ g,f=g+1:=⟨f - 1,by omega⟩
 rw [pP_succ,if_neg (by omega),if_pos rfl,h2,hT,if_neg (by simp)]
 exact h g s rest h1 h2 h3 (h4.up (by omega)) (by omega)
theorem wIn_ok {r:Nat} {T:List Tok} {e:Ex} {D:Nat} (h:Pok r T e D) (f:Nat) (s:PS) (rest:List Tok) (h1:s.k=0) (h2:s.ts=T++rest) (h3:s.op+(D+1)<=48) (h4:stopT r rest) (h5:8 * s.ts.length+(8 - r)<=f):wIn (pP f r) s=(e,{ s with ts:=rest }):=by
 unfold wIn
 dsimp only
 rw [if_neg (by omega),h f { s with op:=s.op+1 } rest h1 h2 (by show s.op+1+D<=48;omega) h4 h5]
 simp
theorem Pok.mkNot {T:List Tok} {e:Ex} {D:Nat} (h:Pok 3 T e D):Pok 3 ((1,sNOT,0) :: T) (.mk sNOT 0 [] [e]) (D+1):=by
 intro f s rest h1 h2 h3 h4 h5
 obtain ⟨g,rfl⟩:∃ g,f=g+1:=⟨f - 1,by omega⟩
 have hl:s.ts.length=T.length+rest.length+1:=by rw [h2];simp
 have hw:=wIn_ok h g s.skip rest h1 (by simp [PS.skip,h2]) h3 h4 (by simp [PS.skip];omega)
 rw [pP_succ,if_pos rfl,h2,if_pos (by simp [atT_cons]),hw]
 rfl
theorem Pok.mkNeg {T:List Tok} {e:Ex} {D:Nat} (h:Pok 6 T e D):Pok 6 ((4,[45],0) :: T) (.mk sNEG 0 [] [e]) (D+1):=by
 intro f s rest h1 h2 h3 h4 h5
 obtain ⟨g,rfl⟩:∃ g,f=g+1:=⟨f - 1,by omega⟩
 have hl:s.ts.length=T.length+rest.length+1:=by rw [h2];simp
 have hw:=wIn_ok h g s.skip rest h1 (by simp [PS.skip,h2]) h3 h4 (by simp [PS.skip];omega)
 rw [pP_succ,if_neg (by omega),if_pos rfl,h2,if_pos (by simp [atT_cons]),hw]
 rfl
theorem stop_close (r:Nat) (X:List Tok):stopT r ((4,[41],0) :: X):=by
 intro r' _ h
 rcases h with rfl | rfl | rfl | rfl <;> simp [operT,atT_cons]
theorem stop_nil (r:Nat):stopT r []:=by
 intro r' _ h
 rcases h with rfl | rfl | rfl | rfl <;> simp [operT,atT]
theorem Pok.paren {T:List Tok} {e:Ex} {D:Nat} (h:Pok 1 T e D):Pok 7 ((4,[40],0) :: (T++[(4,[41],0)])) e (D+1):=by
 intro f s rest h1 h2 h3 h4 h5
 obtain ⟨g,rfl⟩:∃ g,f=g+1:=⟨f - 1,by omega⟩
 have hl:s.ts.length=T.length+rest.length+2:=by rw [h2];simp;omega
 have hw:=wIn_ok h g s.skip ((4,[41],0) :: rest) h1 (by simp [PS.skip,h2]) h3 (stop_close _ _) (by simp [PS.skip];omega)
 rw [pP_succ,if_neg (by omega),if_neg (by omega),if_pos rfl]
 unfold atomP
 rw [h2]
 simp only [List.cons_append]
 rw [if_neg (by decide),if_neg (by decide),if_neg (by decide),if_pos trivial,if_neg (by decide),if_pos trivial,hw]
 simp [atT_cons,PS.skip]
theorem Pok.leaf {t:Tok} {e:Ex} (h:∀ (g:PS->Ex × PS) (s:PS) (rest:List Tok),s.ts=t :: rest->atomP g s=(e,s.skip)):Pok 7 [t] e 0:=by
 intro f s rest h1 h2 h3 h4 h5
 obtain ⟨g,rfl⟩:∃ g,f=g+1:=⟨f - 1,by omega⟩
 rw [pP_succ,if_neg (by omega),if_neg (by omega),if_pos rfl,h _ s rest h2]
 unfold PS.skip
 rw [h2]
 rfl
def binO (o:List UInt8) (r:Nat):Prop:=(r=5/\(o = [42]∨o = [47]∨o=sMOD∨o=sSHL∨o=sSHR))∨(r=4/\(o = [43]∨o = [45]))∨(r=2/\o=sAND)∨(r=1/\(o=sOR∨o=sXOR))
theorem binO.binR {o:List UInt8} {r:Nat} (h:binO o r):binR r:=by unfold binO at h;unfold Proofs.YtfdcigbompkeoaaGreatDoor.binR;omega
theorem binO.binds {o:List UInt8} {r:Nat} (h:binO o r):bindsE o=(r,2)/\o≠sNum/\o≠sN/\o≠sNEG/\o≠sHere/\o≠sNOT:=by
 rcases h with ⟨rfl,rfl | rfl | rfl | rfl | rfl⟩ | ⟨rfl,rfl | rfl⟩ | ⟨rfl,rfl⟩ | ⟨rfl,rfl | rfl⟩ <;> decide
theorem binO.oper {o:List UInt8} {r:Nat} (h:binO o r) (X:List Tok):operT r (opT o :: X)=some o:=by
 rcases h with ⟨rfl,rfl | rfl | rfl | rfl | rfl⟩ | ⟨rfl,rfl | rfl⟩ | ⟨rfl,rfl⟩ | ⟨rfl,rfl | rfl⟩ <;> rfl
theorem binO.stop {o:List UInt8} {r:Nat} (h:binO o r) (X:List Tok):stopT (r+1) (opT o :: X):=by
 intro r' hr hb
 rcases hb with rfl | rfl | rfl | rfl <;> rcases h with ⟨rfl,rfl | rfl | rfl | rfl | rfl⟩ | ⟨rfl,rfl | rfl⟩ | ⟨rfl,rfl⟩ | ⟨rfl,rfl | rfl⟩ <;> first | omega | rfl
theorem head_cases (o:List UInt8) (n:Nat) (m:List UInt8) (k:Nat) (h:headE o n m k=true) :
  (o=sNum/\k=0/\m = [])∨(o=sN/\k=0/\n=0/\nameB m=true/\upper m=m/\wordE m=false)∨(o=sHere/\k=0/\n=0/\m = [])∨(o=sNEG/\k=1/\n=0/\m = [])∨(o=sNOT/\k=1/\n=0/\m = [])∨(∃ r,binO o r/\k=2/\n=0/\m = []):=by
 unfold headE at h
 simp only [Bool.and_eq_true,Bool.not_eq_true',beq_eq_false_iff_ne,beq_iff_eq,Bool.or_eq_true] at h
 obtain ⟨⟨⟨h1,h2⟩,h3⟩,h4⟩:=h
 by_cases c1:o=sNum
 ·subst c1
  exact .inl ⟨rfl,h2,by simpa using h4⟩
 have hn:n=0:=by rcases h3 with h | h;exact h;exact absurd h c1
 by_cases c2:o=sN
 ·subst c2
  simp at h4
  exact .inr (.inl ⟨rfl,h2,hn,h4.1.1,h4.1.2,h4.2⟩)
 rw [if_neg c2] at h4
 have hm:m = []:=by simpa using h4
 by_cases c3:o=sHere
 ·subst c3;exact .inr (.inr (.inl ⟨rfl,h2,hn,hm⟩))
 by_cases c4:o=sNEG
 ·subst c4;exact .inr (.inr (.inr (.inl ⟨rfl,h2,hn,hm⟩)))
 by_cases c5:o=sNOT
 ·subst c5;exact .inr (.inr (.inr (.inr (.inl ⟨rfl,h2,hn,hm⟩))))
 refine .inr (.inr (.inr (.inr (.inr ?_))))
 have hb:∃ r,binO o r:=by
  unfold bindsE at h1
  rw [if_neg (by rintro (h | h | h);exact c1 h;exact c2 h;exact c3 h),if_neg c4] at h1
  by_cases d1:o = [42]∨o = [47]∨o=sMOD∨o=sSHL∨o=sSHR
  ·exact ⟨5,.inl ⟨rfl,d1⟩⟩
  rw [if_neg d1] at h1
  by_cases d2:o = [43]∨o = [45]
  ·exact ⟨4,.inr (.inl ⟨rfl,d2⟩)⟩
  rw [if_neg d2,if_neg c5] at h1
  by_cases d3:o=sAND
  ·exact ⟨2,.inr (.inr (.inl ⟨rfl,d3⟩))⟩
  rw [if_neg d3] at h1
  by_cases d4:o=sOR∨o=sXOR
  ·exact ⟨1,.inr (.inr (.inr ⟨rfl,d4⟩))⟩
  rw [if_neg d4] at h1
  exact absurd rfl h1
 obtain ⟨r,hr⟩:=hb
 exact ⟨r,hr,by rw [h2,hr.binds.1],hn,hm⟩
inductive Form:Ex->Nat->Prop
 | num (n d:Nat):Form (.mk sNum n [] []) (d+1)
 | name (m:List UInt8) (d:Nat) (h1:nameB m=true) (h2:upper m=m) (h3:wordE m=false):Form (.mk sN 0 m []) (d+1)
 | here (d:Nat):Form (.mk sHere 0 [] []) (d+1)
 | neg (a:Ex) (d:Nat) (h:rightE a d=true):Form (.mk sNEG 0 [] [a]) (d+1)
 | not (a:Ex) (d:Nat) (h:rightE a d=true):Form (.mk sNOT 0 [] [a]) (d+1)
 | two (o:List UInt8) (r:Nat) (a b:Ex) (d:Nat) (ho:binO o r) (h1:rightE a d=true) (h2:rightE b d=true):Form (.mk o 0 [] [a,b]) (d+1)
theorem rightE.form {e:Ex} {most:Nat} (h:rightE e most=true):Form e most:=by
 obtain ⟨o,n,m,s⟩:=e
 simp only [rightE,Bool.and_eq_true,Bool.not_eq_true',beq_eq_false_iff_ne] at h
 obtain ⟨⟨h0,h1⟩,h2⟩:=h
 obtain ⟨d,rfl⟩:∃ d,most=d+1:=⟨most - 1,by omega⟩
 rw [Nat.add_sub_cancel] at h2
 rcases head_cases o n m s.length h1 with ⟨rfl,hk,rfl⟩ | ⟨rfl,hk,rfl,g1,g2,g3⟩ | ⟨rfl,hk,rfl,rfl⟩ | ⟨rfl,hk,rfl,rfl⟩ | ⟨rfl,hk,rfl,rfl⟩ | ⟨r,hr,hk,rfl,rfl⟩
 ·rw [List.eq_nil_of_length_eq_zero hk];exact .num n d
 ·rw [List.eq_nil_of_length_eq_zero hk];exact .name m d g1 g2 g3
 ·rw [List.eq_nil_of_length_eq_zero hk];exact .here d
 ·match s,hk with
  | [a],_=>simp [rightL] at h2;exact .neg a d h2
 ·match s,hk with
  | [a],_=>simp [rightL] at h2;exact .not a d h2
 ·match s,hk with
  | [a,b],_=>simp [rightL] at h2;exact .two o r a b d hr h2.1 h2.2
theorem right_deep (e:Ex):∀ d,rightE e d=true->deepE e<=d:=by
 induction e using Ex.ind with
 | h o n m s ih=>
  intro d h
  have hf:=rightE.form h
  cases hf with
  | num=>simp [deepE,deepL]
  | name=>simp [deepE,deepL]
  | here=>simp [deepE,deepL]
  | neg a d hA=>have:=ih a (by simp) d hA;simp [deepE,deepL];omega
  | not a d hA=>have:=ih a (by simp) d hA;simp [deepE,deepL];omega
  | two o r a b d ho h1 h2=>have:=ih a (by simp) d h1;have:=ih b (by simp) d h2;simp [deepE,deepL];omega
theorem toks_num (n w:Nat):toksE (.mk sNum n [] []) w = [(2,[],n)]:=rfl
theorem toks_name (m:List UInt8) (w:Nat):toksE (.mk sN 0 m []) w = [(1,m,0)]:=rfl
theorem toks_here (w:Nat):toksE (.mk sHere 0 [] []) w = [(4,sHere,0)]:=rfl
theorem toks_neg (a:Ex) (w:Nat):toksE (.mk sNEG 0 [] [a]) w=if 6<w then (4,[40],0) :: (((4,[45],0) :: toksE a 6)++[(4,[41],0)]) else (4,[45],0) :: toksE a 6:=rfl
theorem toks_not (a:Ex) (w:Nat):toksE (.mk sNOT 0 [] [a]) w=if 3<w then (4,[40],0) :: (((1,sNOT,0) :: toksE a 3)++[(4,[41],0)]) else (1,sNOT,0) :: toksE a 3:=rfl
theorem toks_two {o:List UInt8} {r:Nat} (ho:binO o r) (a b:Ex) (w:Nat):toksE (.mk o 0 [] [a,b]) w=if r<w then (4,[40],0) :: ((toksE a r++opT o :: toksE b (r+1))++[(4,[41],0)]) else toksE a r++opT o :: toksE b (r+1):=by
 rcases ho with ⟨rfl,rfl | rfl | rfl | rfl | rfl⟩ | ⟨rfl,rfl | rfl⟩ | ⟨rfl,rfl⟩ | ⟨rfl,rfl | rfl⟩ <;> rfl
theorem down_all {C:List Tok} {e:Ex} {D:Nat} (rk:Nat) (h:Pok rk C e D) (hk:rk<=7) (hn:4<=rk->∀ X,atT (C++X) 1 [sNOT]=none) (hm:7<=rk->∀ X,atT (C++X) 4 [[45]]=none):∀ j r,r+j=rk->1<=r->Pok r C e D:=by
 intro j
 induction j with
 | zero=>intro r hr _;rw [Nat.add_zero] at hr;subst hr;exact h
 | succ j ih=>
  intro r hr h1
  have g:=ih (r+1) (by omega) (by omega)
  by_cases h3:r=3
  ·subst h3;exact g.not (hn (by omega))
  by_cases h6:r=6
  ·subst h6;exact g.neg (hm (by omega))
  exact g.down (by unfold binR;omega)
theorem word_not {m:List UInt8} (h:wordE m=false):m≠sNOT:=by rintro rfl;simp [wordE] at h
theorem head_toks (e:Ex):∀ d,rightE e d=true->∀ w,4<=w->w<=7->∀ X,atT (toksE e w++X) 1 [sNOT]=none/\(w=7->atT (toksE e w++X) 4 [[45]]=none):=by
 induction e using Ex.ind with
 | h o n m s ih=>
  intro d h w h4 h7 X
  have hf:=rightE.form h
  cases hf with
  | num=>exact ⟨rfl,fun _=>rfl⟩
  | name m d g1 g2 g3=>
   rw [toks_name]
   have:=word_not g3
   refine ⟨?_,fun _=>rfl⟩
   simp [atT_cons,this]
  | here=>exact ⟨rfl,fun _=>rfl⟩
  | neg a d hA=>
   rw [toks_neg]
   split
   ·exact ⟨rfl,fun _=>rfl⟩
   ·exact ⟨rfl,fun _=>by omega⟩
  | not a d hA=>
   rw [toks_not,if_pos (by omega)]
   exact ⟨rfl,fun _=>rfl⟩
  | two o r a b d ho h1 h2=>
   rw [toks_two ho]
   split
   ·exact ⟨rfl,fun _=>rfl⟩
   ·rename_i hw
    have hr:=ho.binR
    unfold binR at hr
    rw [List.append_assoc]
    exact ⟨(ih a (by simp) d h1 r (by omega) (by omega) _).1,fun _=>by omega⟩
theorem paren_all {C:List Tok} {e:Ex} {D:Nat} (h:Pok 1 C e D) (r:Nat) (h1:1<=r) (h7:r<=7):Pok r ((4,[40],0) :: (C++[(4,[41],0)])) e (D+1):=
 down_all 7 h.paren (by omega) (fun _ X=>rfl) (fun _ X=>rfl) (7 - r) r (by omega) h1
theorem read_toks (e:Ex):∀ d,rightE e d=true->(∀ r,1<=r->r<=7->Pok r (toksE e r) e (2 * deepE e))/\(∀ r,binR r->Qok r (toksE e r) e (2 * deepE e)):=by
 induction e using Ex.ind with
 | h o n m s ih=>
  intro d h
  have hf:=rightE.form h
  cases hf with
  | num n d=>
   have g:∀ r,1<=r->r<=7->Pok r [(2,[],n)] (.mk sNum n [] []) 0:=fun r h1 h7=>down_all 7 (Pok.leaf (fun g s rest hs=>by unfold atomP;rw [hs];rfl)) (by omega) (fun _ X=>rfl) (fun _ X=>rfl) (7 - r) r (by omega) h1
   refine ⟨fun r h1 h7=>?_,fun r hr=>?_⟩
   ·rw [toks_num];exact (g r h1 h7).more (by omega)
   ·rw [toks_num];exact ((g (r+1) (by omega) (by unfold binR at hr;omega)).q hr).more (by omega)
  | name m d g1 g2 g3=>
   have hw:=word_not g3
   have g:∀ r,1<=r->r<=7->Pok r [(1,m,0)] (.mk sN 0 m []) 0:=fun r h1 h7=>down_all 7 (Pok.leaf (fun g s rest hs=>by unfold atomP;rw [hs];simp [g3])) (by omega) (fun _ X=>by simp [atT_cons,hw]) (fun _ X=>rfl) (7 - r) r (by omega) h1
   refine ⟨fun r h1 h7=>?_,fun r hr=>?_⟩
   ·rw [toks_name];exact (g r h1 h7).more (by omega)
   ·rw [toks_name];exact ((g (r+1) (by omega) (by unfold binR at hr;omega)).q hr).more (by omega)
  | here d=>
   have g:∀ r,1<=r->r<=7->Pok r [(4,sHere,0)] (.mk sHere 0 [] []) 0:=fun r h1 h7=>down_all 7 (Pok.leaf (fun g s rest hs=>by unfold atomP;rw [hs];rfl)) (by omega) (fun _ X=>rfl) (fun _ X=>rfl) (7 - r) r (by omega) h1
   refine ⟨fun r h1 h7=>?_,fun r hr=>?_⟩
   ·rw [toks_here];exact (g r h1 h7).more (by omega)
   ·rw [toks_here];exact ((g (r+1) (by omega) (by unfold binR at hr;omega)).q hr).more (by omega)
  | neg a d hA=>
   have ga:=(ih a (by simp) d hA).1 6 (by omega) (by omega)
   have gc:=ga.mkNeg
   have gd:∀ r,1<=r->r<=6->Pok r ((4,[45],0) :: toksE a 6) (.mk sNEG 0 [] [a]) (2 * deepE a+1):=fun r h1 h7=>down_all 6 gc (by omega) (fun _ X=>rfl) (fun h=>by omega) (6 - r) r (by omega) h1
   have hd:deepE (.mk sNEG 0 [] [a])=deepE a+1:=by simp [deepE,deepL]
   have g:∀ r,1<=r->r<=7->Pok r (toksE (.mk sNEG 0 [] [a]) r) (.mk sNEG 0 [] [a]) (2 * deepE (.mk sNEG 0 [] [a])):=by
    intro r h1 h7
    rw [toks_neg]
    split
    ·exact (paren_all (gd 1 (by omega) (by omega)) r h1 h7).more (by omega)
    ·exact (gd r h1 (by omega)).more (by omega)
   refine ⟨g,fun r hr=>?_⟩
   have:=(g (r+1) (by omega) (by unfold binR at hr;omega)).q hr
   rw [toks_neg,if_neg (by unfold binR at hr;omega)] at this ⊢
   exact this
  | not a d hA=>
   have ga:=(ih a (by simp) d hA).1 3 (by omega) (by omega)
   have gc:=ga.mkNot
   have gd:∀ r,1<=r->r<=3->Pok r ((1,sNOT,0) :: toksE a 3) (.mk sNOT 0 [] [a]) (2 * deepE a+1):=fun r h1 h7=>down_all 3 gc (by omega) (fun h=>by omega) (fun h=>by omega) (3 - r) r (by omega) h1
   have hd:deepE (.mk sNOT 0 [] [a])=deepE a+1:=by simp [deepE,deepL]
   have g:∀ r,1<=r->r<=7->Pok r (toksE (.mk sNOT 0 [] [a]) r) (.mk sNOT 0 [] [a]) (2 * deepE (.mk sNOT 0 [] [a])):=by
    intro r h1 h7
    rw [toks_not]
    split
    ·exact (paren_all (gd 1 (by omega) (by omega)) r h1 h7).more (by omega)
    ·exact (gd r h1 (by omega)).more (by omega)
   refine ⟨g,fun r hr=>?_⟩
   have:=(g (r+1) (by omega) (by unfold binR at hr;omega)).q hr
   by_cases hr3:3<r
   ·rw [toks_not,if_pos (by omega)] at this ⊢
    exact this
   ·rw [toks_not,if_neg (by unfold binR at hr;omega)] at this ⊢
    exact this
  | two o q a b d ho h1 h2=>
   have hq:=ho.binR
   have hq':=hq
   unfold binR at hq'
   have ga:=(ih a (by simp) d h1).2 q hq
   have gb:=(ih b (by simp) d h2).1 (q+1) (by omega) (by omega)
   have hd:deepE (.mk o 0 [] [a,b])=max (deepE a) (deepE b)+1:=by simp [deepE,deepL]
   have gq:Qok q (toksE a q++opT o :: toksE b (q+1)) (.mk o 0 [] [a,b]) (2 * max (deepE a) (deepE b)):=Qok.two (ga.more (by omega)) (gb.more (by omega)) ho.oper ho.stop
   have gd:∀ r,1<=r->r<=q->Pok r (toksE a q++opT o :: toksE b (q+1)) (.mk o 0 [] [a,b]) (2 * max (deepE a) (deepE b)):=fun r h1' h7=>down_all q (gq.p hq) (by omega)
    (fun h4 X=>by rw [List.append_assoc];exact (head_toks a d h1 q h4 (by omega) _).1) (fun h=>by omega) (q - r) r (by omega) h1'
   have g:∀ r,1<=r->r<=7->Pok r (toksE (.mk o 0 [] [a,b]) r) (.mk o 0 [] [a,b]) (2 * deepE (.mk o 0 [] [a,b])):=by
    intro r h1' h7
    rw [toks_two ho]
    split
    ·exact (paren_all (gd 1 (by omega) (by omega)) r h1' h7).more (by omega)
    ·exact (gd r h1' (by omega)).more (by omega)
   refine ⟨g,fun r hr=>?_⟩
   have hr':=hr
   unfold binR at hr'
   by_cases hrq:r=q
   ·subst hrq
    rw [toks_two ho,if_neg (by omega)]
    exact gq.more (by omega)
   ·have:=(g (r+1) (by omega) (by omega)).q hr
    by_cases hlt:q<r
    ·rw [toks_two ho,if_pos (by omega)] at this ⊢
     exact this
    ·rw [toks_two ho,if_neg (by omega)] at this ⊢
     exact this
theorem toks_pos (e:Ex):∀ d,rightE e d=true->∀ w,toksE e w≠[]:=by
 intro d h w
 have hf:=rightE.form h
 cases hf with
 | num=>simp [toks_num]
 | name=>simp [toks_name]
 | here=>simp [toks_here]
 | neg=>rw [toks_neg];split <;> simp
 | not=>rw [toks_not];split <;> simp
 | two o r a b d ho h1 h2=>rw [toks_two ho];split <;> simp
theorem showT_cons (t:Tok) (ts:List Tok) (h:ts≠[]):showT (t :: ts)=wordT t++32 :: showT ts:=by
 cases ts with
 | nil=>exact absurd rfl h
 | cons u r=>rfl
theorem showT_app (a b:List Tok) (ha:a≠[]) (hb:b≠[]):showT (a++b)=showT a++32 :: showT b:=by
 induction a with
 | nil=>exact absurd rfl ha
 | cons t a ih=>
  cases a with
  | nil=>exact showT_cons t b hb
  | cons u a=>
   rw [List.cons_append,showT_cons t _ (by simp),ih (by simp),showT_cons t (u :: a) (by simp)]
   simp
theorem show_num (n w:Nat):showE (.mk sNum n [] []) w=showN n:=rfl
theorem show_name (m:List UInt8) (w:Nat):showE (.mk sN 0 m []) w=m:=rfl
theorem show_here (w:Nat):showE (.mk sHere 0 [] []) w=sHere:=rfl
theorem show_neg (a:Ex) (w:Nat):showE (.mk sNEG 0 [] [a]) w=if 6<w then parens ([45]++32 :: showE a 6) else [45]++32 :: showE a 6:=rfl
theorem show_not (a:Ex) (w:Nat):showE (.mk sNOT 0 [] [a]) w=if 3<w then parens (sNOT++32 :: showE a 3) else sNOT++32 :: showE a 3:=rfl
theorem show_two {o:List UInt8} {r:Nat} (ho:binO o r) (a b:Ex) (w:Nat):showE (.mk o 0 [] [a,b]) w=if r<w then parens (showE a r++32 :: (o++32 :: showE b (r+1))) else showE a r++32 :: (o++32 :: showE b (r+1)):=by
 rcases ho with ⟨rfl,rfl | rfl | rfl | rfl | rfl⟩ | ⟨rfl,rfl | rfl⟩ | ⟨rfl,rfl⟩ | ⟨rfl,rfl | rfl⟩ <;> rfl
theorem word_opT (o:List UInt8):wordT (opT o)=o:=by unfold opT;split <;> simp [wordT]
theorem showT_paren (T:List Tok) (h:T≠[]):showT ((4,[40],0) :: (T++[(4,[41],0)]))=parens (showT T):=by
 rw [showT_cons _ _ (by simp),showT_app _ _ h (by simp)]
 simp [parens,showT,wordT]
theorem show_toks (e:Ex):∀ d,rightE e d=true->∀ w,showE e w=showT (toksE e w):=by
 induction e using Ex.ind with
 | h o n m s ih=>
  intro d h w
  have hf:=rightE.form h
  cases hf with
  | num n d=>rfl
  | name m d=>rfl
  | here d=>rfl
  | neg a d hA=>
   have e1:=ih a (by simp) d hA 6
   have p1:=toks_pos a d hA 6
   have e2:showT ((4,[45],0) :: toksE a 6) = [45]++32 :: showE a 6:=by rw [showT_cons _ _ p1,e1];rfl
   rw [show_neg,toks_neg]
   split
   ·rw [showT_paren _ (by simp),e2]
   ·rw [e2]
  | not a d hA=>
   have e1:=ih a (by simp) d hA 3
   have p1:=toks_pos a d hA 3
   have e2:showT ((1,sNOT,0) :: toksE a 3)=sNOT++32 :: showE a 3:=by rw [showT_cons _ _ p1,e1];rfl
   rw [show_not,toks_not]
   split
   ·rw [showT_paren _ (by simp),e2]
   ·rw [e2]
  | two o r a b d ho h1 h2=>
   have e1:=ih a (by simp) d h1 r
   have e2:=ih b (by simp) d h2 (r+1)
   have p1:=toks_pos a d h1 r
   have p2:=toks_pos b d h2 (r+1)
   have e3:showT (toksE a r++opT o :: toksE b (r+1))=showE a r++32 :: (o++32 :: showE b (r+1)):=by
    rw [showT_app _ _ p1 (by simp),showT_cons _ _ p2,word_opT,e1,e2]
   rw [show_two ho,toks_two ho]
   split
   ·rw [showT_paren _ (by simp),e3]
   ·rw [e3]
mutual
def fitE:Ex->Bool
 | .mk o n m s=>decide (n<=65535) && decide (o.length<=1000) && decide (m.length<=1000) && fitL s
def fitL:List Ex->Bool
 | []=>true
 | e :: r=>fitE e && fitL r
end
theorem good_mark (c:UInt8) (h:markB c=true):goodT (4,[c],0):=.inr (.inr (.inr ⟨rfl,⟨c,rfl,h⟩,rfl⟩))
theorem good_op {o:List UInt8} {r:Nat} (ho:binO o r):goodT (opT o):=by
 rcases ho with ⟨rfl,rfl | rfl | rfl | rfl | rfl⟩ | ⟨rfl,rfl | rfl⟩ | ⟨rfl,rfl⟩ | ⟨rfl,rfl | rfl⟩ <;>
  first | exact good_mark _ (by decide) | exact .inl ⟨by decide,by decide,by decide,by decide⟩
theorem good_paren (T:List Tok) (h:∀ t∈T,goodT t):∀ t∈((4,[40],0) :: (T++[(4,[41],0)]):List Tok),goodT t:=by
 intro t ht
 simp at ht
 rcases ht with rfl | ht | rfl
 ·exact good_mark 40 (by decide)
 ·exact h t ht
 ·exact good_mark 41 (by decide)
theorem toks_good (e:Ex):∀ d,rightE e d=true->fitE e=true->∀ w,∀ t∈toksE e w,goodT t:=by
 induction e using Ex.ind with
 | h o n m s ih=>
  intro d h hfit w
  have hf:=rightE.form h
  cases hf with
  | num n d=>
   simp [fitE] at hfit
   intro t ht
   rw [toks_num] at ht
   simp at ht
   subst ht
   exact .inr (.inl ⟨rfl,rfl,hfit.1⟩)
  | name m d g1 g2 g3=>
   intro t ht
   rw [toks_name] at ht
   simp at ht
   subst ht
   exact .inl ⟨rfl,g1,g2,rfl⟩
  | here d=>
   intro t ht
   rw [toks_here] at ht
   simp at ht
   subst ht
   exact good_mark 36 (by decide)
  | neg a d hA=>
   simp [fitE,fitL] at hfit
   have g:=ih a (by simp) d hA hfit 6
   have g2:∀ t∈((4,[45],0) :: toksE a 6:List Tok),goodT t:=by
    intro t ht
    rcases List.mem_cons.1 ht with rfl | ht
    ·exact good_mark 45 (by decide)
    ·exact g t ht
   rw [toks_neg]
   split
   ·exact good_paren _ g2
   ·exact g2
  | not a d hA=>
   simp [fitE,fitL] at hfit
   have g:=ih a (by simp) d hA hfit 3
   have g2:∀ t∈((1,sNOT,0) :: toksE a 3:List Tok),goodT t:=by
    intro t ht
    rcases List.mem_cons.1 ht with rfl | ht
    ·exact .inl ⟨rfl,by decide,by decide,rfl⟩
    ·exact g t ht
   rw [toks_not]
   split
   ·exact good_paren _ g2
   ·exact g2
  | two o r a b d ho h1 h2=>
   simp [fitE,fitL] at hfit
   have ga:=ih a (by simp) d h1 hfit.2.1 r
   have gb:=ih b (by simp) d h2 hfit.2.2 (r+1)
   have g2:∀ t∈(toksE a r++opT o :: toksE b (r+1)),goodT t:=by
    intro t ht
    rcases List.mem_append.1 ht with ht | ht
    ·exact ga t ht
    ·rcases List.mem_cons.1 ht with rfl | ht
     ·exact good_op ho
     ·exact gb t ht
   rw [toks_two ho]
   split
   ·exact good_paren _ g2
   ·exact g2
theorem all_toks (e:Ex) (h:rightE e 24=true):allE (toksE e 1)=(e,0):=by
 have hd:=right_deep e 24 h
 have:=(read_toks e 24 h).1 1 (by omega) (by omega) (8 * (toksE e 1).length+7) ⟨toksE e 1,0,0⟩ [] rfl (by simp) (by show 0+2 * deepE e<=48;omega) (stop_nil 1) (by simp)
 have hp:parseE (toksE e 1)=(e,(toksE e 1).length,0):=by
  unfold parseE
  simp only [this]
  rw [if_neg (by simp),if_neg (by omega)]
  simp
 unfold allE
 simp only [hp]
 rw [if_neg (by simp),if_neg (by omega)]
def numE (n:Nat):Ex:=.mk sNum n [] []
theorem eval_num (here:Nat) (val:List UInt8->Nat × Nat) (n:Nat):evalE here val (numE n)=(n,0):=by simp [numE,evalE]
theorem unquote_short (l:List UInt8):(unquote l).1.length<=l.length:=by
 unfold unquote
 split
 ·simp
 ·rw [unq_eq]
  split
  ·simp [unqEnd]
  ·have h:=hal_length _ (inner l) (Nat.le_refl _)
   have h2:(inner l).length<=l.length:=by unfold inner;rw [List.length_drop,List.length_take];omega
   show (hal (inner l)).length<=_
   omega
theorem firstT_short (s:List UInt8) (h:s≠[]):(firstT s).1.2.1.length<=s.length:=by
 have h0:1<=s.length:=List.length_pos_iff.mpr h
 unfold firstT
 simp only
 split
 ·split
  ·simp [tok0]
  ·rw [upper_length,List.length_take];omega
 ·split
  ·simp
  ·split
   ·split
    ·simp [tok0]
    ·exact Nat.le_trans (unquote_short _) (by rw [List.length_take];omega)
   ·split
    ·simpa using h0
    ·simp [tok0]
theorem lineF_short (f:Nat) (s:List UInt8) (ts:List Tok) (m:Nat) (h:s.length<f) (hm:s.length<=m) (hg:∀ t∈ts,t.2.1.length<=m):∀ t∈(lineF f s ts).1,t.2.1.length<=m:=by
 induction f generalizing s ts with
 | zero=>omega
 | succ f ih=>
  match s with
  | []=>rw [lineF_nil];exact hg
  | c :: r=>
   simp at h
   by_cases h1:c=32∨c=9
   ·rw [lineF_space _ _ _ _ h1];exact ih r ts (by omega) (by simp at hm;omega) hg
   by_cases h2:c=59
   ·rw [lineF_note _ _ _ _ h2];exact hg
   rw [lineF_tok _ _ _ _ (fun e=>h1 (.inl e)) (fun e=>h1 (.inr e)) h2]
   split
   ·rename_i hk
    have hlen:=firstT_len (c :: r) (by simp) hk
    refine ih _ _ (by simp at hlen ⊢;omega) (by rw [List.length_drop];omega) ?_
    intro t ht
    rcases List.mem_append.mp ht with ht | ht
    ·exact hg t ht
    ·simp only [List.mem_singleton] at ht;subst ht;exact Nat.le_trans (firstT_short _ (by simp)) hm
   ·simp
theorem lineL_small (l:List UInt8):∀ t∈(lineL l).1,t.2.2<=65535/\t.2.1.length<=1000:=by
 intro t ht
 refine ⟨?_,?_⟩
 ·rcases lineL_good l t ht with h | h | h | h
  ·rw [h.2.2.2];omega
  ·exact h.2.2
  ·rw [h.2.2];omega
  ·rw [h.2.2];omega
 ·unfold lineL at ht
  split at ht
  ·simp at ht
  ·exact lineF_short _ _ _ 1000 (by omega) (by omega) (by simp) t ht
theorem lineF_count (f:Nat) (t:List UInt8) (ts:List Tok) (h:t.length<f):(lineF f t ts).1.length<=ts.length+t.length:=by
 induction f generalizing t ts with
 | zero=>omega
 | succ f ih=>
  match t with
  | []=>rw [lineF_nil];simp
  | c :: r=>
   simp at h
   by_cases h1:c=32∨c=9
   ·rw [lineF_space _ _ _ _ h1];have:=ih r ts (by omega);simp;omega
   by_cases h2:c=59
   ·rw [lineF_note _ _ _ _ h2];simp
   rw [lineF_tok _ _ _ _ (fun e=>h1 (.inl e)) (fun e=>h1 (.inr e)) h2]
   split
   ·rename_i hk
    have hlen:=firstT_len (c :: r) (by simp) hk
    have hd:((c :: r).drop (firstT (c :: r)).2.1).length=(c :: r).length - (firstT (c :: r)).2.1:=List.length_drop
    have:=ih ((c :: r).drop (firstT (c :: r)).2.1) (ts++[(firstT (c :: r)).1]) (by simp at hd ⊢;omega)
    simp at this hd hlen ⊢
    omega
   ·simp
theorem lineL_count (l:List UInt8):(lineL l).1.length<=200:=by
 unfold lineL
 split
 ·simp
 ·have:=lineF_count (l.length+1) l [] (by omega)
  simp at this;omega
theorem name_len {m:List UInt8} (h:nameB m=true):m.length<=16:=by
 unfold nameB at h
 simp at h
 omega
theorem bin_len {o:List UInt8} {r:Nat} (ho:binO o r):o.length<=3:=by
 rcases ho with ⟨rfl,rfl | rfl | rfl | rfl | rfl⟩ | ⟨rfl,rfl | rfl⟩ | ⟨rfl,rfl⟩ | ⟨rfl,rfl | rfl⟩ <;> decide
theorem parens_len (s:List UInt8):(parens s).length=s.length+4:=by simp [parens]
theorem show_len (e:Ex):∀ d,rightE e d=true->fitE e=true->∀ w,(showE e w).length+15<=30 * 2 ^ d:=by
 induction e using Ex.ind with
 | h o n m s ih=>
  intro d h hfit w
  have hf:=rightE.form h
  cases hf with
  | num n d=>
   simp [fitE] at hfit
   have h1:=wordT_length (2,[],n) hfit.1
   simp [wordT] at h1
   have h2:1<=2 ^ d:=Nat.one_le_two_pow
   rw [show_num,Nat.pow_succ]
   omega
  | name m d g1 g2 g3=>
   have h1:=name_len g1
   have h2:1<=2 ^ d:=Nat.one_le_two_pow
   rw [show_name,Nat.pow_succ]
   omega
  | here d=>
   have h2:1<=2 ^ d:=Nat.one_le_two_pow
   rw [show_here,Nat.pow_succ]
   simp
   omega
  | neg a d hA=>
   simp [fitE,fitL] at hfit
   have h1:=ih a (by simp) d hA hfit 6
   have h2:1<=2 ^ d:=Nat.one_le_two_pow
   rw [show_neg,Nat.pow_succ]
   split
   ·rw [parens_len];simp;omega
   ·simp;omega
  | not a d hA=>
   simp [fitE,fitL] at hfit
   have h1:=ih a (by simp) d hA hfit 3
   have h2:1<=2 ^ d:=Nat.one_le_two_pow
   rw [show_not,Nat.pow_succ]
   split
   ·rw [parens_len];simp;omega
   ·simp;omega
  | two o r a b d ho h1 h2=>
   simp [fitE,fitL] at hfit
   have g1:=ih a (by simp) d h1 hfit.2.1 r
   have g2:=ih b (by simp) d h2 hfit.2.2 (r+1)
   have g3:=bin_len ho
   have g4:1<=2 ^ d:=Nat.one_le_two_pow
   rw [show_two ho,Nat.pow_succ]
   split
   ·rw [parens_len];simp;omega
   ·simp;omega
theorem show_len9 (e:Ex) (d:Nat) (hd:d<=24) (h:rightE e d=true) (hf:fitE e=true) (w:Nat):(showE e w).length<=600000000:=by
 have h1:=show_len e d h hf w
 have h2:2 ^ d<=2 ^ 24:=Nat.pow_le_pow_right (by omega) hd
 omega
structure Ar where
 w:List UInt8
 t:List UInt8
 is:Bool
 mem:Bool
 e:Ex
structure St where
 label:List UInt8
 colon:Bool
 op:List UInt8
 args:List Ar
def ar0:Ar:=⟨[],[],false,false,ex0⟩
def st0:St:=⟨[],false,[],[]⟩
abbrev sDB:List UInt8:=[68,66]
abbrev sEQU:List UInt8:=[69,81,85]
abbrev sSET:List UInt8:=[83,69,84]
def opW:List (List UInt8):=[[79,82],[88,79,82],[65,78,68],[78,79,84],[77,79,68],[83,72,76],[83,72,82]]
def intelW:List (List UInt8):=[[79,82],[88,79,82],[65,78,68],[78,79,84],[77,79,68],[83,72,76],[83,72,82],[65],[66],[67],[68],[69],[72],[76],[77],[83,80],[80,83,87]]
def zilogW:List (List UInt8):=[[79,82],[88,79,82],[65,78,68],[78,79,84],[77,79,68],[83,72,76],[83,72,82],[65],[66],[67],[68],[69],[72],[76],[65,70],[66,67],[68,69],[72,76],[83,80],[78,90],[90],[78,67],[80,79],[80,69],[80],[77]]
def eightW:List (List UInt8):=[[79,82],[88,79,82],[65,78,68],[78,79,84],[77,79,68],[83,72,76],[83,72,82],[65,76],[67,76],[68,76],[66,76],[65,72],[67,72],[68,72],[66,72],[65,88],[67,88],[68,88],[66,88],[83,80],[66,80],[83,73],[68,73]]
def memZ:List (List UInt8):=[[40,66,67,41],[40,68,69,41],[40,72,76,41],[40,83,80,41]]
def mem8:List (List UInt8):=[[91,66,88,93],[91,83,73,93]]
def resB (d:Int) (s:List UInt8):Bool:=if d=0 then decide (s∈intelW) else if d=1 then decide (s∈zilogW) else if d=2 then decide (s∈eightW) else false
def knownB (d:Int):Bool:=decide (0<=d) && decide (d<=2)
def setsB (s:List UInt8):Bool:=decide (s∈[sEQU,sSET])
def greatB (s:List UInt8):Bool:=nameB s && upper s == s
def plainB (d:Int) (s:List UInt8):Bool:=greatB s && !resB d s && !setsB s
def memB (d:Int) (s:List UInt8):Bool:=(decide (d=1) && decide (s∈memZ)) || (decide (d=2) && decide (s∈mem8))
def wordB (d:Int) (s:List UInt8):Bool:=memB d s || (resB d s && !decide (s∈opW))
def emptyA (a:Ar):Bool:=sameE a.e ex0 && !a.mem
def rightA (d:Int) (op:List UInt8) (a:Ar):Bool:=
 if a.w≠[] then emptyA a && a.t == [] && !a.is && wordB d a.w
 else if a.is then emptyA a && op == sDB && (unquote (quoteL a.t)).2 == 0
 else if a.t≠[]∨(a.mem=true/\d=0)∨rightE a.e 24=false then false
 else (namesE a.e).all (plainB d)
def rightS (d:Int) (s:St):Nat:=
 if knownB d=false then 1
 else if s.label≠[]/\plainB d s.label=false then 2
 else if (s.op = []/\s.args≠[])∨(s.op≠[]/\greatB s.op=false) then 2
 else if (setsB s.op=true/\s.label = [])∨s.colon≠(!s.label.isEmpty && !setsB s.op)∨32<s.args.length then 2
 else if s.args.all (rightA d s.op)=false then 2
 else 0
def nameT (ts:List Tok) (i:Nat):Bool:=decide (i<ts.length) && decide ((ts.getD i tok0).1=1)
def markT (ts:List Tok) (i:Nat) (s:List UInt8):Bool:=decide (i<ts.length) && decide ((ts.getD i tok0).1=4) && decide ((ts.getD i tok0).2.1=s)
def pd (o c:List UInt8) (t:Tok) (n:Int):Int:=if t.1=4/\t.2.1=o then n+1 else if t.1=4/\t.2.1=c then n - 1 else n
def pairF (o c:List UInt8):List Tok->Int->Bool
 | [],_=>true
 | [_],_=>true
 | t :: u :: r,n=>if pd o c t n=0 then false else pairF o c (u :: r) (pd o c t n)
def pairT (ts:List Tok) (o c:List UInt8):Bool:=decide (2<=ts.length) && markT ts 0 o && markT ts (ts.length - 1) c && pairF o c ts 0
def midT (ts:List Tok):List Tok:=(ts.drop 1).take (ts.length - 2)
def encT (ts:List Tok) (s:List UInt8):List UInt8:=(ts.getD 0 tok0).2.1++s++(ts.getD (ts.length - 1) tok0).2.1
def inMem (d:Int) (ts:List Tok):Bool:=(decide (d=1) && pairT ts [40] [41]) || (decide (d=2) && pairT ts [91] [93])
def operandL (d:Int) (op:List UInt8) (ts:List Tok):Ar × Nat:=
 if ts = [] then (ar0,2)
 else if ts.length=1/\(ts.getD 0 tok0).1=3/\op=sDB then (⟨[],(ts.getD 0 tok0).2.1,true,false,ex0⟩,0)
 else if ts.length=1/\(ts.getD 0 tok0).1=1/\wordB d (ts.getD 0 tok0).2.1=true then (⟨(ts.getD 0 tok0).2.1,[],false,false,ex0⟩,0)
 else if inMem d ts=true then
  (if (midT ts).length=1/\((midT ts).getD 0 tok0).1=1/\wordB d (encT ts ((midT ts).getD 0 tok0).2.1)=true then (⟨encT ts ((midT ts).getD 0 tok0).2.1,[],false,false,ex0⟩,0)
  else (⟨[],[],false,true,(allE (midT ts)).1⟩,(allE (midT ts)).2))
 else (⟨[],[],false,false,(allE ts).1⟩,(allE ts).2)
def argsL (d:Int) (op:List UInt8):List (List Tok)->List Ar->List Ar × Nat
 | [],acc=>(acc,0)
 | p :: r,acc=>if (operandL d op p).2≠0 then ([],(operandL d op p).2) else argsL d op r (acc++[(operandL d op p).1])
def endS (d:Int) (s:St):St × Nat:=if rightS d s≠0 then (st0,rightS d s) else (s,0)
def headS (l:List Tok):List UInt8 × Bool × List Tok:=
 if nameT l 0 && markT l 1 [58] then ((l.getD 0 tok0).2.1,true,l.drop 2)
 else if nameT l 0 && nameT l 1 && setsB (l.getD 1 tok0).2.1 then ((l.getD 0 tok0).2.1,false,l.drop 1)
 else ([],false,l)
def bodyS (d:Int) (lab:List UInt8) (colon:Bool) (r:List Tok):St × Nat:=
 if r = [] then endS d ⟨lab,colon,[],[]⟩
 else if nameT r 0=false then (st0,2)
 else if 32<(cutL [44] (r.drop 1)).length then (st0,11)
 else if (argsL d (r.getD 0 tok0).2.1 (cutL [44] (r.drop 1)) []).2≠0 then (st0,(argsL d (r.getD 0 tok0).2.1 (cutL [44] (r.drop 1)) []).2)
 else endS d ⟨lab,colon,(r.getD 0 tok0).2.1,(argsL d (r.getD 0 tok0).2.1 (cutL [44] (r.drop 1)) []).1⟩
def parseS (d:Int) (s:List UInt8):St × Nat:=
 if knownB d=false then (st0,1)
 else if (lineL s).2≠0 then (st0,(lineL s).2)
 else bodyS d (headS (lineL s).1).1 (headS (lineL s).1).2.1 (headS (lineL s).1).2.2
def showA (d:Int) (a:Ar):List UInt8:=
 if a.w≠[] then a.w else if a.is then quoteL a.t
 else if a.mem=true/\d=2 then [91]++(if rightE a.e 24 then showE a.e 1 else [])++[93]
 else if a.mem=true then [40]++(if rightE a.e 24 then showE a.e 1 else [])++[41]
 else (if rightE a.e 24 then showE a.e 1 else [])
def labS (s:St):List UInt8:=if s.colon then s.label++[58] else s.label
def wordsS (d:Int) (s:St):List (List UInt8):=[labS s,s.op,[44].intercalate (s.args.map (showA d))].filter (fun x=>!x.isEmpty)
def textS (d:Int) (s:St):List UInt8:=[32].intercalate (wordsS d s)
def showS (d:Int) (s:St):List UInt8 × Nat:=if rightS d s≠0 then ([],rightS d s) else if 200<(textS d s).length then ([],11) else (textS d s,0)
def Tl (R:List UInt8):Prop:=R = [] ∨ ∃ x r,R=x :: r/\tailB x=false/\alnumB x=false/\x≠39
theorem Tl.nil:Tl []:=.inl rfl
theorem Tl.sp (r:List UInt8):Tl (32 :: r):=.inr ⟨32,r,rfl,by decide,by decide,by decide⟩
theorem Tl.com (r:List UInt8):Tl (44 :: r):=.inr ⟨44,r,rfl,by decide,by decide,by decide⟩
theorem Tl.col (r:List UInt8):Tl (58 :: r):=.inr ⟨58,r,rfl,by decide,by decide,by decide⟩
theorem Tl.par (r:List UInt8):Tl (41 :: r):=.inr ⟨41,r,rfl,by decide,by decide,by decide⟩
theorem Tl.bra (r:List UInt8):Tl (93 :: r):=.inr ⟨93,r,rfl,by decide,by decide,by decide⟩
theorem toks_word (t:Tok) (hg:goodT t) (R:List UInt8) (us:List Tok) (hR:Tl R) (h:Toks R us):Toks (wordT t++R) (t :: us):=by
 obtain ⟨c,r,h1,h2,h3,h4,h5⟩:=firstT_word t hg
 have hk:(firstT (c :: r)).2.2=0:=by rw [h2]
 rw [h1]
 have e:firstT (c :: r++R)=firstT (c :: r):=by
  rcases hR with rfl | ⟨x,q,rfl,g1,g2,g3⟩
  ·rw [List.append_nil]
  ·exact firstT_behind (c :: r) q x (by simp) g1 g2 g3 hk
 have:=Toks.tok c (r++R) us h3 h4 h5 (by rw [← List.cons_append,e];exact hk) (by rw [← List.cons_append,e,h2,List.drop_append_of_le_length (Nat.le_refl _),List.drop_length];exact h)
 rw [← List.cons_append,e,h2] at this
 exact this
theorem toks_mark (c:UInt8) (hc:markB c=true) (R:List UInt8) (us:List Tok) (h:Toks R us):Toks (c :: R) ((4,[c],0) :: us):=by
 have hno:=of_fin (p:=fun c=>markB c=true->letB c=false/\numB c=false/\c≠39/\c≠32/\c≠9/\c≠59) mark_no c hc
 have e:firstT (c :: R)=((4,[c],0),1,0):=by
  unfold firstT
  simp only [List.headD_cons,hno.1,hno.2.1,hno.2.2.1,hc,if_true,if_false,Bool.false_eq_true]
 have:=Toks.tok c R us hno.2.2.2.1 hno.2.2.2.2.1 hno.2.2.2.2.2 (by rw [e]) (by rw [e];exact h)
 rw [e] at this
 exact this
theorem toks_show (ts:List Tok) (hg:∀ t∈ts,goodT t) (hne:ts≠[]) (R:List UInt8) (us:List Tok) (hR:Tl R) (h:Toks R us):Toks (showT ts++R) (ts++us):=by
 induction ts with
 | nil=>exact absurd rfl hne
 | cons t ts ih=>
  cases ts with
  | nil=>exact toks_word t (hg t (by simp)) R us hR h
  | cons u r=>
   have g:=ih (fun x hx=>hg x (List.mem_cons_of_mem _ hx)) (by simp)
   rw [showT_cons t (u :: r) (by simp),List.append_assoc,List.cons_append]
   exact toks_word t (hg t (by simp)) _ _ (Tl.sp _) (.space 32 _ _ (.inl rfl) g)
theorem good_name (m:List UInt8) (h:greatB m=true):goodT (1,m,0):=by
 unfold greatB at h
 simp only [Bool.and_eq_true,beq_iff_eq] at h
 exact .inl ⟨rfl,h.1,h.2,rfl⟩
theorem toks_nm (m:List UInt8) (h:greatB m=true) (R:List UInt8) (us:List Tok) (hR:Tl R) (hT:Toks R us):Toks (m++R) ((1,m,0) :: us):=
 toks_word (1,m,0) (good_name m h) R us hR hT
def toksW (d:Int) (s:List UInt8):List Tok:=if memB d s then [(4,s.take 1,0),(1,(s.drop 1).take 2,0),(4,s.drop 3,0)] else [(1,s,0)]
def toksA (d:Int) (a:Ar):List Tok:=
 if a.w≠[] then toksW d a.w else if a.is then [(3,a.t,0)]
 else if a.mem=true/\d=2 then (4,[91],0) :: (toksE a.e 1++[(4,[93],0)])
 else if a.mem=true then (4,[40],0) :: (toksE a.e 1++[(4,[41],0)])
 else toksE a.e 1
theorem intel_great:∀ s∈intelW,greatB s=true:=by decide +kernel
theorem zilog_great:∀ s∈zilogW,greatB s=true:=by decide +kernel
theorem eight_great:∀ s∈eightW,greatB s=true:=by decide +kernel
theorem res_great (d:Int) (s:List UInt8) (h:resB d s=true):greatB s=true:=by
 unfold resB at h
 split at h
 ·exact intel_great s (of_decide_eq_true h)
 ·split at h
  ·exact zilog_great s (of_decide_eq_true h)
  ·split at h
   ·exact eight_great s (of_decide_eq_true h)
   ·cases h
theorem mem_form (d:Int) (s:List UInt8) (h:memB d s=true):(d=1/\s∈memZ)∨(d=2/\s∈mem8):=by
 unfold memB at h
 simpa using h
theorem memZ_toks:∀ s∈memZ,s.take 1 = [40]/\s.drop 3 = [41]/\greatB ((s.drop 1).take 2)=true/\s = [40]++(s.drop 1).take 2++[41]:=by decide +kernel
theorem mem8_toks:∀ s∈mem8,s.take 1 = [91]/\s.drop 3 = [93]/\greatB ((s.drop 1).take 2)=true/\s = [91]++(s.drop 1).take 2++[93]:=by decide +kernel
theorem toksW_toks (d:Int) (s:List UInt8) (h:wordB d s=true) (R:List UInt8) (us:List Tok) (hR:Tl R) (hT:Toks R us):Toks (s++R) (toksW d s++us):=by
 unfold toksW
 by_cases hm:memB d s=true
 ·rw [if_pos hm]
  rcases mem_form d s hm with ⟨_,hs⟩ | ⟨_,hs⟩
  ·obtain ⟨g1,g2,g3,g4⟩:=memZ_toks s hs
   rw [g1,g2]
   have e:s++R=40 :: ((s.drop 1).take 2++41 :: R):=by generalize (s.drop 1).take 2=m at g4 ⊢;rw [g4];simp
   rw [e]
   exact toks_mark 40 (by decide) _ _ (toks_nm _ g3 _ _ (Tl.par _) (toks_mark 41 (by decide) _ _ hT))
  ·obtain ⟨g1,g2,g3,g4⟩:=mem8_toks s hs
   rw [g1,g2]
   have e:s++R=91 :: ((s.drop 1).take 2++93 :: R):=by generalize (s.drop 1).take 2=m at g4 ⊢;rw [g4];simp
   rw [e]
   exact toks_mark 91 (by decide) _ _ (toks_nm _ g3 _ _ (Tl.bra _) (toks_mark 93 (by decide) _ _ hT))
 ·rw [if_neg hm]
  unfold wordB at h
  rw [Bool.eq_false_iff.2 hm] at h
  simp only [Bool.false_or,Bool.and_eq_true] at h
  exact toks_nm s (res_great d s h.1) R us hR hT
inductive ArF (d:Int) (op:List UInt8):Ar->Prop
 | word (s:List UInt8) (h0:s≠[]) (h:wordB d s=true):ArF d op ⟨s,[],false,false,ex0⟩
 | text (t:List UInt8) (ho:op=sDB) (h:t.any oddB=false):ArF d op ⟨[],t,true,false,ex0⟩
 | expr (mem:Bool) (e:Ex) (hm:mem=true->d≠0) (h:rightE e 24=true) (hn:∀ m∈namesE e,plainB d m=true):ArF d op ⟨[],[],false,mem,e⟩
theorem rightA.form {d:Int} {op:List UInt8} {a:Ar} (h:rightA d op a=true):ArF d op a:=by
 obtain ⟨w,t,is,mem,e⟩:=a
 unfold rightA emptyA at h
 simp only at h
 by_cases h1:w≠[]
 ·rw [if_pos h1] at h
  simp only [Bool.and_eq_true,Bool.not_eq_true',beq_iff_eq] at h
  obtain ⟨⟨⟨⟨g1,rfl⟩,rfl⟩,rfl⟩,g4⟩:=h
  obtain rfl:=(sameE_iff e ex0).1 g1
  exact .word w h1 g4
 ·rw [if_neg h1] at h
  obtain rfl:w = []:=by simpa using h1
  by_cases h2:is=true
  ·subst h2
   simp only [if_true,Bool.and_eq_true,Bool.not_eq_true',beq_iff_eq] at h
   obtain ⟨⟨⟨g1,rfl⟩,rfl⟩,g3⟩:=h
   obtain rfl:=(sameE_iff e ex0).1 g1
   refine .text t rfl ?_
   have:=quote_back t
   cases hh:t.any oddB with
   | false=>rfl
   | true=>rw [hh] at this;simp at this;rw [this] at g3;simp at g3
  ·obtain rfl:is=false:=by simpa using h2
   simp only [Bool.false_eq_true,if_false] at h
   by_cases h3:t≠[]∨(mem=true/\d=0)∨rightE e 24=false
   ·rw [if_pos h3] at h;cases h
   ·rw [if_neg h3] at h
    simp only [not_or,not_and,Bool.not_eq_false,ne_eq,Decidable.not_not] at h3
    obtain ⟨rfl,g1,g2⟩:=h3
    exact .expr mem e g1 g2 (by simpa using h)
theorem toksA_toks (d:Int) (op:List UInt8) (a:Ar) (h:ArF d op a) (hf:fitE a.e=true) (R:List UInt8) (us:List Tok) (hR:Tl R) (hT:Toks R us):Toks (showA d a++R) (toksA d a++us):=by
 cases h with
 | word s h0 h=>
  unfold showA toksA
  simp only [if_pos h0]
  exact toksW_toks d s h R us hR hT
 | text t ho h=>
  unfold showA toksA
  simp only [ne_eq,not_true_eq_false,if_false,if_true]
  exact toks_word (3,t,0) (.inr (.inr (.inl ⟨rfl,h,rfl⟩))) R us hR hT
 | expr mem e hm h hn=>
  have hs:=show_toks e 24 h 1
  have hg:=toks_good e 24 h hf 1
  have hp:=toks_pos e 24 h 1
  unfold showA toksA
  simp only [ne_eq,not_true_eq_false,if_false,if_true,Bool.false_eq_true,h]
  rw [hs]
  split
  ·rw [List.append_assoc,List.append_assoc]
   have:=toks_show _ hg hp _ _ (Tl.bra R) (toks_mark 93 (by decide) R us hT)
   simpa using toks_mark 91 (by decide) _ _ this
  ·split
   ·rw [List.append_assoc,List.append_assoc]
    have:=toks_show _ hg hp _ _ (Tl.par R) (toks_mark 41 (by decide) R us hT)
    simpa using toks_mark 40 (by decide) _ _ this
   ·exact toks_show _ hg hp R us hR hT
theorem inter_one (x:UInt8) (a:List UInt8):[x].intercalate [a]=a:=by simp [List.intercalate,List.intersperse]
theorem inter_cons (x:UInt8) (a b:List UInt8) (r:List (List UInt8)):[x].intercalate (a :: b :: r)=a++x :: [x].intercalate (b :: r):=by simp [List.intercalate,List.intersperse]
theorem args_toks (d:Int) (op:List UInt8) (l:List Ar) (h:∀ a∈l,ArF d op a) (hf:∀ a∈l,fitE a.e=true):Toks ([44].intercalate (l.map (showA d))) (joinP (4,[44],0) (l.map (toksA d))):=by
 induction l with
 | nil=>exact .nil
 | cons a l ih=>
  cases l with
  | nil=>
   show Toks ([44].intercalate [showA d a]) (toksA d a)
   rw [inter_one]
   have:=toksA_toks d op a (h a (by simp)) (hf a (by simp)) [] [] Tl.nil .nil
   simpa using this
  | cons b l=>
   have g:=ih (fun x hx=>h x (List.mem_cons_of_mem _ hx)) (fun x hx=>hf x (List.mem_cons_of_mem _ hx))
   show Toks ([44].intercalate (showA d a :: showA d b :: l.map (showA d))) (toksA d a++(4,[44],0) :: joinP (4,[44],0) (toksA d b :: l.map (toksA d)))
   rw [inter_cons]
   exact toksA_toks d op a (h a (by simp)) (hf a (by simp)) _ _ (Tl.com _) (toks_mark 44 (by decide) _ _ g)
def Bal (p:List Tok):Prop:=∀ d cur acc rest,cutF [44] (p++rest) d cur acc=cutF [44] rest d (cur++p) acc
theorem Bal.nil:Bal []:=fun d cur acc rest=>by simp
theorem Bal.app {p q:List Tok} (hp:Bal p) (hq:Bal q):Bal (p++q):=fun d cur acc rest=>by rw [List.append_assoc,hp,hq,List.append_assoc]
theorem Bal.one {t:Tok} (h1:isT t [[41],[93]]=false) (h2:isT t [[40],[91]]=false) (h3:isT t [[44]]=false):Bal [t]:=fun d cur acc rest=>by
 rw [List.singleton_append,cutF_eq,h3]
 simp [d2F,d1F,h1,h2]
theorem Bal.paren {p:List Tok} (hp:Bal p):Bal ((4,[40],0) :: (p++[(4,[41],0)])):=fun d cur acc rest=>by
 have e:((4,[40],0) :: (p++[(4,[41],0)]):List Tok)++rest=(4,[40],0) :: (p++((4,[41],0) :: rest)):=by simp
 rw [e,cutF_eq,if_neg (by simp [isT]),hp,cutF_eq,if_neg (by simp [isT])]
 simp [d2F,d1F,isT]
theorem Bal.brack {p:List Tok} (hp:Bal p):Bal ((4,[91],0) :: (p++[(4,[93],0)])):=fun d cur acc rest=>by
 have e:((4,[91],0) :: (p++[(4,[93],0)]):List Tok)++rest=(4,[91],0) :: (p++((4,[93],0) :: rest)):=by simp
 rw [e,cutF_eq,if_neg (by simp [isT]),hp,cutF_eq,if_neg (by simp [isT])]
 simp [d2F,d1F,isT]
theorem Bal.op {o:List UInt8} {r:Nat} (ho:binO o r):Bal [opT o]:=by
 rcases ho with ⟨rfl,rfl | rfl | rfl | rfl | rfl⟩ | ⟨rfl,rfl | rfl⟩ | ⟨rfl,rfl⟩ | ⟨rfl,rfl | rfl⟩ <;> exact Bal.one (by decide) (by decide) (by decide)
theorem toksE_bal (e:Ex):∀ d,rightE e d=true->∀ w,Bal (toksE e w):=by
 induction e using Ex.ind with
 | h o n m s ih=>
  intro d h w
  have hf:=rightE.form h
  cases hf with
  | num n d=>rw [toks_num];exact Bal.one (by simp [isT]) (by simp [isT]) (by simp [isT])
  | name m d g1 g2 g3=>rw [toks_name];exact Bal.one (by simp [isT]) (by simp [isT]) (by simp [isT])
  | here d=>rw [toks_here];exact Bal.one (by decide) (by decide) (by decide)
  | neg a d hA=>
   have g:=ih a (by simp) d hA 6
   have g2:Bal ((4,[45],0) :: toksE a 6):=(Bal.one (t:=(4,[45],0)) (by decide) (by decide) (by decide)).app g
   rw [toks_neg]
   split
   ·exact g2.paren
   ·exact g2
  | not a d hA=>
   have g:=ih a (by simp) d hA 3
   have g2:Bal ((1,sNOT,0) :: toksE a 3):=(Bal.one (t:=(1,sNOT,0)) (by decide) (by decide) (by decide)).app g
   rw [toks_not]
   split
   ·exact g2.paren
   ·exact g2
  | two o r a b d ho h1 h2=>
   have ga:=ih a (by simp) d h1 r
   have gb:=ih b (by simp) d h2 (r+1)
   have g2:Bal (toksE a r++opT o :: toksE b (r+1)):=ga.app ((Bal.op ho).app gb)
   rw [toks_two ho]
   split
   ·exact g2.paren
   ·exact g2
theorem toksW_bal (d:Int) (s:List UInt8):Bal (toksW d s):=by
 unfold toksW
 by_cases hm:memB d s=true
 ·rw [if_pos hm]
  rcases mem_form d s hm with ⟨_,hs⟩ | ⟨_,hs⟩
  ·obtain ⟨g1,g2,_,_⟩:=memZ_toks s hs
   rw [g1,g2]
   exact (Bal.one (t:=(1,(s.drop 1).take 2,0)) (by simp [isT]) (by simp [isT]) (by simp [isT])).paren
  ·obtain ⟨g1,g2,_,_⟩:=mem8_toks s hs
   rw [g1,g2]
   exact (Bal.one (t:=(1,(s.drop 1).take 2,0)) (by simp [isT]) (by simp [isT]) (by simp [isT])).brack
 ·rw [if_neg hm]
  exact Bal.one (by simp [isT]) (by simp [isT]) (by simp [isT])
theorem toksA_bal (d:Int) (op:List UInt8) (a:Ar) (h:ArF d op a):Bal (toksA d a):=by
 cases h with
 | word s h0 h=>unfold toksA;simp only [if_pos h0];exact toksW_bal d s
 | text t ho h=>unfold toksA;simp only [ne_eq,not_true_eq_false,if_false,if_true];exact Bal.one (by simp [isT]) (by simp [isT]) (by simp [isT])
 | expr mem e hm h hn=>
  have g:=toksE_bal e 24 h 1
  unfold toksA
  simp only [ne_eq,not_true_eq_false,if_false,Bool.false_eq_true]
  split
  ·exact g.brack
  ·split
   ·exact g.paren
   ·exact g
theorem cut_joined (ps:List (List Tok)) (h:∀ p∈ps,Bal p) (h0:ps≠[]):∀ acc,cutF [44] (joinP (4,[44],0) ps) 0 [] acc=acc++ps:=by
 induction ps with
 | nil=>exact absurd rfl h0
 | cons p ps ih=>
  intro acc
  cases ps with
  | nil=>
   show cutF [44] p 0 [] acc=_
   have:=h p (by simp) 0 [] acc []
   rw [List.append_nil] at this
   rw [this]
   simp [cutF]
  | cons q r=>
   show cutF [44] (p++(4,[44],0) :: joinP (4,[44],0) (q :: r)) 0 [] acc=_
   rw [h p (by simp),cutF_eq,if_pos (by simp [isT,d1F])]
   have e:d2F (4,[44],0) 0=0:=by simp [d2F,d1F,isT]
   rw [e,ih (fun x hx=>h x (List.mem_cons_of_mem _ hx)) (by simp)]
   simp
theorem toksA_pos (d:Int) (op:List UInt8) (a:Ar) (h:ArF d op a):toksA d a≠[]:=by
 cases h with
 | word s h0 h=>unfold toksA toksW;simp only [if_pos h0];split <;> simp
 | text t ho h=>unfold toksA;simp
 | expr mem e hm h hn=>
  unfold toksA
  simp only [ne_eq,not_true_eq_false,if_false,Bool.false_eq_true]
  split
  ·simp
  ·split
   ·simp
   ·exact toks_pos e 24 h 1
theorem joinP_pos (c:Tok) (ps:List (List Tok)) (h:∀ p∈ps,p≠[]) (h0:ps≠[]):joinP c ps≠[]:=by
 cases ps with
 | nil=>exact absurd rfl h0
 | cons p r=>
  have:=h p (by simp)
  cases r with
  | nil=>exact this
  | cons q r=>show p++_≠[];simp
theorem cut_args (d:Int) (op:List UInt8) (l:List Ar) (h:∀ a∈l,ArF d op a):cutL [44] (joinP (4,[44],0) (l.map (toksA d)))=l.map (toksA d):=by
 cases l with
 | nil=>rfl
 | cons a l=>
  unfold cutL
  rw [if_neg (joinP_pos _ _ (fun p hp=>by obtain ⟨x,hx,rfl⟩:=List.mem_map.1 hp;exact toksA_pos d op x (h x hx)) (by simp))]
  rw [cut_joined _ (fun p hp=>by obtain ⟨x,hx,rfl⟩:=List.mem_map.1 hp;exact toksA_bal d op x (h x hx)) (by simp)]
  rfl
def Np (o c:List UInt8) (p:List Tok):Prop:=∀ n rest,1<=n->rest≠[]->pairF o c (p++rest) n=pairF o c rest n
theorem pairF_cons (o c:List UInt8) (t:Tok) (rest:List Tok) (n:Int) (h:rest≠[]):pairF o c (t :: rest) n=if pd o c t n=0 then false else pairF o c rest (pd o c t n):=by
 cases rest with
 | nil=>exact absurd rfl h
 | cons u r=>rfl
theorem Np.app {o c:List UInt8} {p q:List Tok} (hp:Np o c p) (hq:Np o c q) (h0:q≠[]):Np o c (p++q):=fun n rest h1 h2=>by
 rw [List.append_assoc,hp n _ h1 (by simp [h0]),hq n _ h1 h2]
theorem Np.one {o c:List UInt8} {t:Tok} (h:t.1=4->t.2.1≠o/\t.2.1≠c):Np o c [t]:=fun n rest h1 h2=>by
 have e:pd o c t n=n:=by
  unfold pd
  rw [if_neg (fun hh=>(h hh.1).1 hh.2),if_neg (fun hh=>(h hh.1).2 hh.2)]
 rw [List.singleton_append,pairF_cons _ _ _ _ _ h2,e,if_neg (by omega)]
def okOC (o c:List UInt8):Prop:=(o = [40]/\c = [41])∨(o = [91]/\c = [93])
theorem Np.paren {o c:List UInt8} (hoc:okOC o c) {p:List Tok} (hp:Np o c p):Np o c ((4,[40],0) :: (p++[(4,[41],0)])):=fun n rest h1 h2=>by
 have e:((4,[40],0) :: (p++[(4,[41],0)]):List Tok)++rest=(4,[40],0) :: (p++((4,[41],0) :: rest)):=by simp
 rcases hoc with ⟨rfl,rfl⟩ | ⟨rfl,rfl⟩
 ·rw [e,pairF_cons _ _ _ _ _ (by simp),show pd [40] [41] (4,[40],0) n=n+1 by simp [pd],if_neg (by omega),hp _ _ (by omega) (by simp),pairF_cons _ _ _ _ _ h2,show pd [40] [41] (4,[41],0) (n+1)=n by simp [pd],if_neg (by omega)]
 ·rw [e,pairF_cons _ _ _ _ _ (by simp),show pd [91] [93] (4,[40],0) n=n by simp [pd],if_neg (by omega),hp _ _ (by omega) (by simp),pairF_cons _ _ _ _ _ h2,show pd [91] [93] (4,[41],0) n=n by simp [pd],if_neg (by omega)]
theorem op_np {o c:List UInt8} (hoc:okOC o c) {x:List UInt8} {r:Nat} (ho:binO x r):(opT x).1=4->(opT x).2.1≠o/\(opT x).2.1≠c:=by
 rcases hoc with ⟨rfl,rfl⟩ | ⟨rfl,rfl⟩ <;> rcases ho with ⟨rfl,rfl | rfl | rfl | rfl | rfl⟩ | ⟨rfl,rfl | rfl⟩ | ⟨rfl,rfl⟩ | ⟨rfl,rfl | rfl⟩ <;> decide
theorem toksE_np {o c:List UInt8} (hoc:okOC o c) (e:Ex):∀ d,rightE e d=true->∀ w,Np o c (toksE e w)/\∀ rest,rest≠[]->pairF o c (toksE e w++rest) 0=false:=by
 have hm:∀ x:UInt8,x≠40->x≠41->x≠91->x≠93->∀ t:Tok,t.2.1 = [x]->(t.1=4->t.2.1≠o/\t.2.1≠c):=by
  intro x h1 h2 h3 h4 t ht _
  rw [ht]
  rcases hoc with ⟨rfl,rfl⟩ | ⟨rfl,rfl⟩ <;> simp [h1,h2,h3,h4]
 have z1:∀ (t:Tok) (rest:List Tok),(t.1=4->t.2.1≠o/\t.2.1≠c)->rest≠[]->pairF o c (t :: rest) 0=false:=by
  intro t rest h h2
  have e:pd o c t 0=0:=by
   unfold pd
   rw [if_neg (fun hh=>(h hh.1).1 hh.2),if_neg (fun hh=>(h hh.1).2 hh.2)]
  rw [pairF_cons _ _ _ _ _ h2,e,if_pos rfl]
 have zp:∀ (p rest:List Tok),Np o c p->rest≠[]->pairF o c ((4,[40],0) :: (p++[(4,[41],0)])++rest) 0=false:=by
  intro p rest hp h2
  have e:((4,[40],0) :: (p++[(4,[41],0)]):List Tok)++rest=(4,[40],0) :: (p++((4,[41],0) :: rest)):=by simp
  rcases hoc with ⟨rfl,rfl⟩ | ⟨rfl,rfl⟩
  ·rw [e,pairF_cons _ _ _ _ _ (by simp),show pd [40] [41] (4,[40],0) 0=1 by simp [pd],if_neg (by omega),hp _ _ (by omega) (by simp),pairF_cons _ _ _ _ _ h2,show pd [40] [41] (4,[41],0) 1=0 by simp [pd],if_pos rfl]
  ·rw [e,pairF_cons _ _ _ _ _ (by simp),show pd [91] [93] (4,[40],0) 0=0 by simp [pd],if_pos rfl]
 induction e using Ex.ind with
 | h x n m s ih=>
  intro d h w
  have hf:=rightE.form h
  cases hf with
  | num n d=>rw [toks_num];exact ⟨Np.one (by simp),fun rest hr=>z1 _ _ (by simp) hr⟩
  | name m d g1 g2 g3=>rw [toks_name];exact ⟨Np.one (by simp),fun rest hr=>z1 _ _ (by simp) hr⟩
  | here d=>rw [toks_here];exact ⟨Np.one (hm 36 (by decide) (by decide) (by decide) (by decide) _ rfl),fun rest hr=>z1 _ _ (hm 36 (by decide) (by decide) (by decide) (by decide) _ rfl) hr⟩
  | neg a d hA=>
   have g:=ih a (by simp) d hA 6
   have h45:=hm 45 (by decide) (by decide) (by decide) (by decide) (4,[45],0) rfl
   have g2:Np o c ((4,[45],0) :: toksE a 6):=(Np.one h45).app g.1 (toks_pos a d hA 6)
   rw [toks_neg]
   split
   ·exact ⟨g2.paren hoc,fun rest hr=>zp _ _ g2 hr⟩
   ·exact ⟨g2,fun rest hr=>z1 _ _ h45 (by simp [hr])⟩
  | not a d hA=>
   have g:=ih a (by simp) d hA 3
   have g2:Np o c ((1,sNOT,0) :: toksE a 3):=(Np.one (t:=(1,sNOT,0)) (by simp)).app g.1 (toks_pos a d hA 3)
   rw [toks_not]
   split
   ·exact ⟨g2.paren hoc,fun rest hr=>zp _ _ g2 hr⟩
   ·exact ⟨g2,fun rest hr=>z1 _ _ (by simp) (by simp [hr])⟩
  | two x r a b d ho h1 h2=>
   have ga:=ih a (by simp) d h1 r
   have gb:=ih b (by simp) d h2 (r+1)
   have g2:Np o c (toksE a r++opT x :: toksE b (r+1)):=ga.1.app ((Np.one (op_np hoc ho)).app gb.1 (toks_pos b d h2 _)) (by simp)
   rw [toks_two ho]
   split
   ·exact ⟨g2.paren hoc,fun rest hr=>zp _ _ g2 hr⟩
   ·exact ⟨g2,fun rest hr=>by rw [List.append_assoc];exact ga.2 _ (by simp)⟩
theorem markT_0 (t:Tok) (r:List Tok) (s:List UInt8):markT (t :: r) 0 s=(decide (t.1=4) && decide (t.2.1=s)):=by simp [markT]
theorem pairT_expr {o c:List UInt8} (hoc:okOC o c) (e:Ex) (h:rightE e 24=true):pairT (toksE e 1) o c=false:=by
 have hm:∀ x:UInt8,x≠40->x≠91->∀ r:List Tok,markT ((4,[x],0) :: r) 0 o=false:=by
  intro x h1 h2 r
  rw [markT_0]
  rcases hoc with ⟨rfl,rfl⟩ | ⟨rfl,rfl⟩ <;> simp [h1,h2]
 have hf:=rightE.form h
 unfold pairT
 cases hf with
 | num n d=>simp [toks_num]
 | name m d g1 g2 g3=>simp [toks_name]
 | here d=>simp [toks_here]
 | neg a d hA=>rw [toks_neg,if_neg (by omega),hm 45 (by decide) (by decide)];simp
 | not a d hA=>rw [toks_not,if_neg (by omega),markT_0];simp
 | two x r a b d ho h1 h2=>
  have hr:1<=r:=by rcases ho with h | h | h | h <;> omega
  rw [toks_two ho,if_neg (by omega),(toksE_np hoc a _ h1 r).2 _ (by simp)]
  simp
theorem getD_last (p:List Tok) (t u:Tok):(u :: (p++[t])).getD ((u :: (p++[t])).length - 1) tok0=t:=by
 simp [List.getD_eq_getElem?_getD]
theorem midT_mk (p:List Tok) (t u:Tok):midT (u :: (p++[t]))=p:=by simp [midT]
theorem encT_mk (p:List Tok) (t u:Tok) (s:List UInt8):encT (u :: (p++[t])) s=u.2.1++s++t.2.1:=by
 unfold encT
 rw [getD_last]
 simp
theorem pairT_mk {o c:List UInt8} (p:List Tok) (hp:Np o c p):pairT ((4,o,0) :: (p++[(4,c,0)])) o c=true:=by
 have h1:markT ((4,o,0) :: (p++[(4,c,0)])) 0 o=true:=by rw [markT_0];simp
 have h2:markT ((4,o,0) :: (p++[(4,c,0)])) (((4,o,0) :: (p++[(4,c,0)])).length - 1) c=true:=by
  unfold markT
  rw [getD_last]
  simp
 have h3:pairF o c ((4,o,0) :: (p++[(4,c,0)])) 0=true:=by
  rw [pairF_cons _ _ _ _ _ (by simp),show pd o c (4,o,0) 0=1 by simp [pd],if_neg (by omega),hp _ _ (by omega) (by simp)]
  rfl
 unfold pairT
 rw [h1,h2,h3]
 simp
theorem pairT_one (t:Tok) (o c:List UInt8):pairT [t] o c=false:=by simp [pairT]
theorem intel_let:∀ s∈intelW,s.headD 0≠40/\s.headD 0≠91:=by decide +kernel
theorem zilog_let:∀ s∈zilogW,s.headD 0≠40/\s.headD 0≠91:=by decide +kernel
theorem eight_let:∀ s∈eightW,s.headD 0≠40/\s.headD 0≠91:=by decide +kernel
theorem res_let (d:Int) (s:List UInt8) (h:resB d s=true):s.headD 0≠40/\s.headD 0≠91:=by
 unfold resB at h
 split at h
 ·exact intel_let s (of_decide_eq_true h)
 ·split at h
  ·exact zilog_let s (of_decide_eq_true h)
  ·split at h
   ·exact eight_let s (of_decide_eq_true h)
   ·cases h
theorem memZ_res:∀ s∈memZ,(s.drop 1).take (s.length - 2)∈zilogW:=by decide +kernel
theorem mem8_res:∀ s∈mem8,(s.drop 1).take (s.length - 2)∈eightW:=by decide +kernel
theorem memZ_head:∀ s∈memZ,s.headD 0=40:=by decide +kernel
theorem mem8_head:∀ s∈mem8,s.headD 0=91:=by decide +kernel
theorem plain_not {d:Int} {m:List UInt8} (h:plainB d m=true):greatB m=true/\resB d m=false/\setsB m=false:=by
 unfold plainB at h
 simpa [and_assoc] using h
theorem great_head (m:List UInt8) (h:greatB m=true):m.headD 0≠40/\m.headD 0≠91:=by
 unfold greatB nameB at h
 simp only [Bool.and_eq_true] at h
 have hl:=h.1.1.2
 constructor
 ·intro h2;rw [h2] at hl;revert hl;decide
 ·intro h2;rw [h2] at hl;revert hl;decide
theorem plain_word {d:Int} {m:List UInt8} (h:plainB d m=true):wordB d m=false:=by
 obtain ⟨h1,h2,h3⟩:=plain_not h
 have hh:=great_head m h1
 unfold wordB
 rw [h2]
 cases hm:memB d m with
 | false=>rfl
 | true=>
  rcases mem_form d m hm with ⟨_,hs⟩ | ⟨_,hs⟩
  ·exact absurd (memZ_head m hs) hh.1
  ·exact absurd (mem8_head m hs) hh.2
theorem plain_enc {d:Int} {m:List UInt8} (h:plainB d m=true) {o c:UInt8} (hoc:(o=40/\c=41)∨(o=91/\c=93)):wordB d ([o]++m++[c])=false:=by
 obtain ⟨h1,h2,h3⟩:=plain_not h
 have e:(([o]++m++[c]).drop 1).take (([o]++m++[c]).length - 2)=m:=by simp
 have hr:resB d ([o]++m++[c])=false:=by
  cases hh:resB d ([o]++m++[c]) with
  | false=>rfl
  | true=>
   have:=res_let d _ hh
   rcases hoc with ⟨rfl,rfl⟩ | ⟨rfl,rfl⟩ <;> simp at this
 unfold wordB
 rw [hr]
 cases hm:memB d ([o]++m++[c]) with
 | false=>rfl
 | true=>
  rcases mem_form d _ hm with ⟨rfl,hs⟩ | ⟨rfl,hs⟩
  ·have:=memZ_res _ hs
   rw [e] at this
   simp [resB,this] at h2
  ·have:=mem8_res _ hs
   rw [e] at this
   simp [resB,this] at h2
theorem toksE_one (e:Ex) (h:rightE e 24=true) (hl:(toksE e 1).length=1):(toksE e 1).getD 0 tok0=(2,[],e.n)∨(toksE e 1).getD 0 tok0=(4,sHere,0)∨(∃ m∈namesE e,(toksE e 1).getD 0 tok0=(1,m,0)):=by
 have hf:=rightE.form h
 cases hf with
 | num n d=>left;rfl
 | name m d g1 g2 g3=>right;right;exact ⟨m,by simp [namesE],rfl⟩
 | here d=>right;left;rfl
 | neg a d hA=>
  have:=toks_pos a _ hA 6
  rw [toks_neg,if_neg (by omega)] at hl
  simp at hl
  exact absurd hl this
 | not a d hA=>
  have:=toks_pos a _ hA 3
  rw [toks_not,if_neg (by omega)] at hl
  simp at hl
  exact absurd hl this
 | two x r a b d ho h1 h2=>
  have hr:1<=r:=by rcases ho with h | h | h | h <;> omega
  have p1:=toks_pos a _ h1 r
  have p2:=toks_pos b _ h2 (r+1)
  rw [toks_two ho,if_neg (by omega)] at hl
  simp at hl
  have q1:1<=(toksE a r).length:=List.length_pos_iff.2 p1
  have q2:1<=(toksE b (r+1)).length:=List.length_pos_iff.2 p2
  omega
theorem operand_back (d:Int) (hd:knownB d=true) (op:List UInt8) (a:Ar) (h:ArF d op a):operandL d op (toksA d a)=(a,0):=by
 cases h with
 | word s h0 h=>
  unfold toksA
  simp only [if_pos h0]
  unfold toksW
  by_cases hm:memB d s=true
  ·rw [if_pos hm]
   rcases mem_form d s hm with ⟨rfl,hs⟩ | ⟨rfl,hs⟩
   ·obtain ⟨g1,g2,g3,g4⟩:=memZ_toks s hs
    rw [g1,g2]
    generalize (s.drop 1).take 2=m at *
    subst g4
    have hp:pairT [(4,[40],0),(1,m,0),(4,[41],0)] [40] [41]=true:=pairT_mk [(1,m,0)] (Np.one (by simp))
    have hi:inMem 1 [(4,[40],0),(1,m,0),(4,[41],0)]=true:=by simp [inMem,hp]
    have hmid:midT [(4,[40],0),(1,m,0),(4,[41],0)] = [(1,m,0)]:=midT_mk [(1,m,0)] _ _
    have henc:∀ s,encT [(4,[40],0),(1,m,0),(4,[41],0)] s = [40]++s++[41]:=fun s=>encT_mk [(1,m,0)] _ _ s
    unfold operandL
    rw [if_neg (by simp),if_neg (by simp),if_neg (by simp),if_pos hi,hmid,if_pos ⟨rfl,rfl,by rw [henc];exact h⟩,henc]
    rfl
   ·obtain ⟨g1,g2,g3,g4⟩:=mem8_toks s hs
    rw [g1,g2]
    generalize (s.drop 1).take 2=m at *
    subst g4
    have hp:pairT [(4,[91],0),(1,m,0),(4,[93],0)] [91] [93]=true:=pairT_mk [(1,m,0)] (Np.one (by simp))
    have hi:inMem 2 [(4,[91],0),(1,m,0),(4,[93],0)]=true:=by simp [inMem,hp]
    have hmid:midT [(4,[91],0),(1,m,0),(4,[93],0)] = [(1,m,0)]:=midT_mk [(1,m,0)] _ _
    have henc:∀ s,encT [(4,[91],0),(1,m,0),(4,[93],0)] s = [91]++s++[93]:=fun s=>encT_mk [(1,m,0)] _ _ s
    unfold operandL
    rw [if_neg (by simp),if_neg (by simp),if_neg (by simp),if_pos hi,hmid,if_pos ⟨rfl,rfl,by rw [henc];exact h⟩,henc]
    rfl
  ·rw [if_neg hm]
   unfold operandL
   rw [if_neg (by simp),if_neg (by simp),if_pos ⟨rfl,rfl,h⟩]
   rfl
 | text t ho h=>
  unfold toksA operandL
  simp only [ne_eq,not_true_eq_false,if_false,if_true]
  rw [if_neg (by simp),if_pos ⟨rfl,rfl,ho⟩]
  rfl
 | expr mem e hm h hn=>
  have hall:=all_toks e h
  have hone:=toksE_one e h
  have hpos:=toks_pos e 24 h 1
  unfold toksA
  simp only [ne_eq,not_true_eq_false,if_false,Bool.false_eq_true]
  have inner:∀ o c:UInt8,((o=40/\c=41/\d=1)∨(o=91/\c=93/\d=2))->mem=true->operandL d op ((4,[o],0) :: (toksE e 1++[(4,[c],0)]))=(⟨[],[],false,mem,e⟩,0):=by
   intro o c hoc hmem
   have hoc1:okOC [o] [c]:=by rcases hoc with ⟨rfl,rfl,_⟩ | ⟨rfl,rfl,_⟩ <;> simp [okOC]
   have hoc2:(o=40/\c=41)∨(o=91/\c=93):=by rcases hoc with ⟨rfl,rfl,_⟩ | ⟨rfl,rfl,_⟩ <;> simp
   have hp:=pairT_mk _ (toksE_np hoc1 e 24 h 1).1
   have hi:inMem d ((4,[o],0) :: (toksE e 1++[(4,[c],0)]))=true:=by
    rcases hoc with ⟨rfl,rfl,rfl⟩ | ⟨rfl,rfl,rfl⟩ <;> simp [inMem,hp]
   have hlen:((4,[o],0) :: (toksE e 1++[(4,[c],0)]):List Tok).length≠1:=by simp
   unfold operandL
   rw [if_neg (by simp),if_neg (fun hh=>hlen hh.1),if_neg (fun hh=>hlen hh.1),if_pos hi,midT_mk,if_neg,hall,hmem]
   rintro ⟨g1,g2,g3⟩
   rw [encT_mk] at g3
   rcases hone g1 with h1 | h1 | ⟨m,hm,h1⟩
   ·rw [h1] at g2;simp at g2
   ·rw [h1] at g2;simp at g2
   ·rw [h1] at g3
    have:=plain_enc (hn m hm) hoc2
    rw [this] at g3
    cases g3
  split
  ·rename_i hc
   exact inner 91 93 (.inr ⟨rfl,rfl,hc.2⟩) hc.1
  ·split
   ·rename_i h1 h2
    have h3:=hm h2
    unfold knownB at hd
    simp at hd
    exact inner 40 41 (.inl ⟨rfl,rfl,by have:d≠2:=fun h=>h1 ⟨h2,h⟩;omega⟩) h2
   ·rename_i h1 h2
    obtain rfl:mem=false:=by simpa using h2
    have hi:inMem d (toksE e 1)=false:=by
     unfold inMem
     rw [pairT_expr (.inl ⟨rfl,rfl⟩) e h,pairT_expr (.inr ⟨rfl,rfl⟩) e h]
     simp
    unfold operandL
    rw [if_neg hpos,if_neg,if_neg,if_neg (by rw [hi];simp),hall]
    ·rintro ⟨g1,g2,g3⟩
     rcases hone g1 with h1 | h1 | ⟨m,hm,h1⟩
     ·rw [h1] at g2;simp at g2
     ·rw [h1] at g2;simp at g2
     ·rw [h1] at g3
      rw [plain_word (hn m hm)] at g3
      cases g3
    ·rintro ⟨g1,g2,g3⟩
     rcases hone g1 with h1 | h1 | ⟨m,hm,h1⟩ <;> (rw [h1] at g2;simp at g2)
theorem args_back (d:Int) (hd:knownB d=true) (op:List UInt8) (l:List Ar) (h:∀ a∈l,ArF d op a):∀ acc,argsL d op (l.map (toksA d)) acc=(acc++l,0):=by
 induction l with
 | nil=>intro acc;simp [argsL]
 | cons a l ih=>
  intro acc
  have e:=operand_back d hd op a (h a (by simp))
  show argsL d op (toksA d a :: l.map (toksA d)) acc=_
  unfold argsL
  rw [e,if_neg (by simp),ih (fun x hx=>h x (List.mem_cons_of_mem _ hx))]
  simp
def okH (t:Tok):Prop:=(t.1=4->t.2.1≠[58])/\(t.1=1->setsB t.2.1=false)
theorem toksE_head (e:Ex):∀ d w,rightE e d=true->(∀ m∈namesE e,setsB m=false)->∃ t r,toksE e w=t :: r/\okH t:=by
 induction e using Ex.ind with
 | h x n m s ih=>
  intro d w h hn
  have hf:=rightE.form h
  have hp:okH (4,[40],0):=⟨by simp,by simp⟩
  cases hf with
  | num n d=>exact ⟨_,_,rfl,by simp [okH]⟩
  | name m d g1 g2 g3=>exact ⟨_,_,rfl,by simp [okH,hn m (by simp [namesE])]⟩
  | here d=>exact ⟨_,_,rfl,by simp [okH]⟩
  | neg a d hA=>
   rw [toks_neg]
   split
   ·exact ⟨_,_,rfl,hp⟩
   ·exact ⟨_,_,rfl,by simp [okH]⟩
  | not a d hA=>
   rw [toks_not]
   split
   ·exact ⟨_,_,rfl,hp⟩
   ·exact ⟨_,_,rfl,by simp [okH,setsB]⟩
  | two x r a b d ho h1 h2=>
   obtain ⟨t,q,e1,e2⟩:=ih a (by simp) d r h1 (fun m hm=>hn m (by simp [namesE,namesL,hm]))
   rw [toks_two ho]
   split
   ·exact ⟨_,_,rfl,hp⟩
   ·rw [e1];exact ⟨_,_,rfl,e2⟩
theorem intel_sets:∀ s∈intelW,setsB s=false:=by decide +kernel
theorem zilog_sets:∀ s∈zilogW,setsB s=false:=by decide +kernel
theorem eight_sets:∀ s∈eightW,setsB s=false:=by decide +kernel
theorem res_sets (d:Int) (s:List UInt8) (h:resB d s=true):setsB s=false:=by
 unfold resB at h
 split at h
 ·exact intel_sets s (of_decide_eq_true h)
 ·split at h
  ·exact zilog_sets s (of_decide_eq_true h)
  ·split at h
   ·exact eight_sets s (of_decide_eq_true h)
   ·cases h
theorem toksA_head (d:Int) (op:List UInt8) (a:Ar) (h:ArF d op a):∃ t r,toksA d a=t :: r/\okH t:=by
 cases h with
 | word s h0 h=>
  unfold toksA toksW
  simp only [if_pos h0]
  by_cases hm:memB d s=true
  ·rw [if_pos hm]
   rcases mem_form d s hm with ⟨_,hs⟩ | ⟨_,hs⟩
   ·rw [(memZ_toks s hs).1];exact ⟨_,_,rfl,by simp [okH]⟩
   ·rw [(mem8_toks s hs).1];exact ⟨_,_,rfl,by simp [okH]⟩
  ·rw [if_neg hm]
   unfold wordB at h
   rw [Bool.eq_false_iff.2 hm] at h
   simp only [Bool.false_or,Bool.and_eq_true] at h
   exact ⟨_,_,rfl,by simp [okH,res_sets d s h.1]⟩
 | text t ho h=>exact ⟨_,_,rfl,by simp [okH]⟩
 | expr mem e hm h hn=>
  unfold toksA
  simp only [ne_eq,not_true_eq_false,if_false,Bool.false_eq_true]
  split
  ·exact ⟨_,_,rfl,by simp [okH]⟩
  ·split
   ·exact ⟨_,_,rfl,by simp [okH]⟩
   ·exact toksE_head e 24 1 h (fun m hm=>(plain_not (hn m hm)).2.2)
theorem showA_pos (d:Int) (op:List UInt8) (a:Ar) (h:ArF d op a) (hf:fitE a.e=true):showA d a≠[]:=by
 intro h0
 have:=toksA_toks d op a h hf [] [] Tl.nil .nil
 rw [h0] at this
 simp at this
 have hp:=toksA_pos d op a h
 generalize toksA d a=ts at *
 cases this
 exact hp rfl
theorem inter_pos (x:UInt8) (l:List (List UInt8)) (h:∀ a∈l,a≠[]) (h0:l≠[]):[x].intercalate l≠[]:=by
 cases l with
 | nil=>exact absurd rfl h0
 | cons a r=>
  have:=h a (by simp)
  cases r with
  | nil=>rw [inter_one];exact this
  | cons b r=>rw [inter_cons];simp
structure StF (d:Int) (s:St):Prop where
 known:knownB d=true
 lab:s.label≠[]->plainB d s.label=true
 op0:s.op = []->s.args = []
 op1:s.op≠[]->greatB s.op=true
 sets:setsB s.op=true->s.label≠[]
 colon:s.colon=(!s.label.isEmpty && !setsB s.op)
 few:s.args.length<=32
 args:∀ a∈s.args,ArF d s.op a
theorem rightS.form {d:Int} {s:St} (h:rightS d s=0):StF d s:=by
 unfold rightS at h
 split at h
 ·cases h
 ·rename_i h1
  split at h
  ·cases h
  ·rename_i h2
   split at h
   ·cases h
   ·rename_i h3
    split at h
    ·cases h
    ·rename_i h4
     split at h
     ·cases h
     ·rename_i h5
      simp only [not_or,not_and,Bool.not_eq_false,ne_eq,Decidable.not_not] at h1 h2 h3 h4 h5
      refine ⟨h1,h2,h3.1,h3.2,fun g=>h4.1 g,h4.2.1,by omega,fun a ha=>rightA.form ?_⟩
      exact List.all_eq_true.1 h5 a ha
def toksO (d:Int) (s:St):List Tok:=if s.op = [] then [] else (1,s.op,0) :: joinP (4,[44],0) (s.args.map (toksA d))
def toksS (d:Int) (s:St):List Tok:=(if s.label = [] then [] else if s.colon then [(1,s.label,0),(4,[58],0)] else [(1,s.label,0)])++toksO d s
def restS (d:Int) (s:St):List UInt8:=if s.op = [] then [] else if s.args = [] then s.op else s.op++32 :: [44].intercalate (s.args.map (showA d))
theorem rest_toks (d:Int) (s:St) (h:StF d s) (hf:∀ a∈s.args,fitE a.e=true):Toks (restS d s) (toksO d s):=by
 unfold restS toksO
 split
 ·exact .nil
 ·rename_i h0
  split
  ·rename_i h1
   rw [h1]
   have:=toks_nm s.op (h.op1 h0) [] [] Tl.nil .nil
   simpa [joinP] using this
  ·exact toks_nm s.op (h.op1 h0) _ _ (Tl.sp _) (.space 32 _ _ (.inl rfl) (args_toks d s.op s.args h.args hf))
theorem text_form (d:Int) (s:St) (h:StF d s) (hf:∀ a∈s.args,fitE a.e=true):textS d s=if s.label = [] then restS d s else if restS d s = [] then labS s else labS s++32 :: restS d s:=by
 have hj:s.args≠[]->[44].intercalate (s.args.map (showA d))≠[]:=fun h0=>inter_pos 44 _ (fun x hx=>by obtain ⟨a,ha,rfl⟩:=List.mem_map.1 hx;exact showA_pos d s.op a (h.args a ha) (hf a ha)) (by simpa using h0)
 have hl:s.label = []->labS s = []:=fun h0=>by have:=h.colon;rw [h0] at this;simp at this;simp [labS,this,h0]
 have hl2:s.label≠[]->labS s≠[]:=fun h0=>by unfold labS;split <;> simp [h0]
 unfold textS wordsS restS
 by_cases h1:s.label = []
 ·rw [hl h1]
  by_cases h2:s.op = []
  ·simp [h1,h2,h.op0 h2]
  ·by_cases h3:s.args = []
   ·simp [h1,h2,h3]
   ·simp [h1,h2,h3,hj h3]
 ·by_cases h2:s.op = []
  ·simp [h1,h2,h.op0 h2,hl2 h1]
  ·by_cases h3:s.args = []
   ·simp [h1,h2,h3,hl2 h1]
   ·simp [h1,h2,h3,hj h3,hl2 h1]
theorem text_toks (d:Int) (s:St) (h:StF d s) (hf:∀ a∈s.args,fitE a.e=true):Toks (textS d s) (toksS d s):=by
 rw [text_form d s h hf]
 have hr:=rest_toks d s h hf
 unfold toksS
 by_cases h1:s.label = []
 ·rw [if_pos h1,if_pos h1];exact hr
 ·rw [if_neg h1,if_neg h1]
  have hg:=(plain_not (h.lab h1)).1
  have main:∀ (R:List UInt8) (us:List Tok),Tl R->Toks R us->Toks (labS s++R) ((if s.colon then [(1,s.label,0),(4,[58],0)] else [(1,s.label,0)])++us):=by
   intro R us hR hT
   unfold labS
   split
   ·rw [List.append_assoc]
    exact toks_nm _ hg _ _ (Tl.col _) (toks_mark 58 (by decide) _ _ hT)
   ·exact toks_nm _ hg _ _ hR hT
  split
  ·rename_i h2
   rw [h2] at hr
   generalize toksO d s=T at *
   cases hr
   have:=main [] [] Tl.nil .nil
   simpa using this
  ·exact main _ _ (Tl.sp _) (.space 32 _ _ (.inl rfl) hr)
theorem head_back (d:Int) (s:St) (h:StF d s):headS (toksS d s)=(s.label,s.colon,toksO d s):=by
 have hc:=h.colon
 unfold toksS
 by_cases h1:s.label = []
 ·rw [if_pos h1]
  rw [h1] at hc ⊢
  simp only [List.isEmpty_nil,Bool.not_true,Bool.false_and] at hc
  rw [hc,List.nil_append]
  unfold toksO
  by_cases h2:s.op = []
  ·rw [if_pos h2];rfl
  ·rw [if_neg h2]
   have hse:setsB s.op=false:=by
    cases hh:setsB s.op with
    | false=>rfl
    | true=>exact absurd h1 (h.sets hh)
   by_cases h3:s.args = []
   ·rw [h3]
    simp [headS,nameT,markT,joinP]
   ·obtain ⟨a,l,ha⟩:∃ a l,s.args=a :: l:=by
     cases hh:s.args with
     | nil=>exact absurd hh h3
     | cons a l=>exact ⟨a,l,rfl⟩
    obtain ⟨t,r,e1,e2,e3⟩:=toksA_head d s.op a (h.args a (by simp [ha]))
    obtain ⟨q,e4⟩:∃ q,joinP (4,[44],0) (s.args.map (toksA d))=t :: q:=by
     rw [ha]
     cases l with
     | nil=>exact ⟨r,by simp [joinP,e1]⟩
     | cons b l=>exact ⟨_,by simp [joinP,e1];rfl⟩
    rw [e4]
    have m1:markT ((1,s.op,0) :: t :: q) 1 [58]=false:=by
     simp only [markT]
     by_cases g:t.1=4
     ·simp [g,e2 g]
     ·simp [g]
    have m2:(nameT ((1,s.op,0) :: t :: q) 1 && setsB (((1,s.op,0) :: t :: q:List Tok).getD 1 tok0).2.1)=false:=by
     simp only [nameT]
     by_cases g:t.1=1
     ·simp [e3 g]
     ·simp [g]
    unfold headS
    rw [m1,Bool.and_false,if_neg (by simp),Bool.and_assoc,m2,Bool.and_false,if_neg (by simp)]
 ·rw [if_neg h1]
  by_cases h2:s.colon=true
  ·rw [h2]
   simp [headS,nameT,markT]
  ·have h2':s.colon=false:=by simpa using h2
   rw [h2'] at hc ⊢
   have hse:setsB s.op=true:=by
    cases hh:setsB s.op with
    | true=>rfl
    | false=>rw [hh] at hc;simp [h1] at hc
   have h3:s.op≠[]:=by intro h0;rw [h0] at hse;revert hse;decide
   unfold toksO
   rw [if_neg h3]
   simp [headS,nameT,markT,hse]
theorem parse_text (d:Int) (s:St) (h:rightS d s=0) (hf:∀ a∈s.args,fitE a.e=true) (hl:(textS d s).length<=200):parseS d (textS d s)=(s,0):=by
 have hF:=rightS.form h
 have hT:=toks_lineL _ _ (text_toks d s hF hf) hl
 have hH:=head_back d s hF
 unfold parseS
 rw [if_neg (by rw [hF.known];simp),hT,if_neg (by simp)]
 simp only [hH]
 unfold bodyS toksO
 by_cases h1:s.op = []
 ·rw [if_pos h1,if_pos rfl]
  unfold endS
  have e:(⟨s.label,s.colon,[],[]⟩:St)=s:=by
   obtain ⟨a,b,c,e⟩:=s
   simp only at h1
   have:=hF.op0 h1
   simp only at this
   rw [h1,this]
  rw [e,h]
  simp
 ·rw [if_neg h1,if_neg (by simp),if_neg (by simp [nameT])]
  have e1:((1,s.op,0) :: joinP (4,[44],0) (s.args.map (toksA d)):List Tok).drop 1=joinP (4,[44],0) (s.args.map (toksA d)):=rfl
  have e2:(((1,s.op,0) :: joinP (4,[44],0) (s.args.map (toksA d)):List Tok).getD 0 tok0).2.1=s.op:=rfl
  have hfew:=hF.few
  rw [e1,e2,cut_args d s.op s.args hF.args,if_neg (by simp;omega),args_back d hF.known s.op s.args hF.args,if_neg (by simp)]
  unfold endS
  have e:(⟨s.label,s.colon,s.op,[]++s.args⟩:St)=s:=by simp
  simp only [e,h]
  simp
def okT (ts:List Tok):Prop:=∀ t∈ts,t.2.2<=65535/\t.2.1.length<=1000
theorem okT.drop {ts:List Tok} (h:okT ts) (n:Nat):okT (ts.drop n):=fun t ht=>h t (List.mem_of_mem_drop ht)
theorem okT.take {ts:List Tok} (h:okT ts) (n:Nat):okT (ts.take n):=fun t ht=>h t (List.mem_of_mem_take ht)
theorem atT_len {ts:List Tok} {k:Int} {ls:List (List UInt8)} {o:List UInt8} (h:atT ts k ls=some o):o∈ls:=by
 cases ts with
 | nil=>cases h
 | cons t r=>
  rw [atT_cons] at h
  split at h
  ·rename_i hh;injection h with h;rw [← h];exact hh.2
  ·cases h
theorem operT_len {r:Nat} {ts:List Tok} {o:List UInt8} (h:operT r ts=some o):o.length<=1000:=by
 have key:∀ ls:List (List UInt8),(∀ x∈ls,x.length<=1000)->∀ k,atT ts k ls=some o->o.length<=1000:=fun ls hls k hh=>hls o (atT_len hh)
 unfold operT at h
 split at h
 ·exact key _ (by decide) _ h
 ·split at h
  ·exact key _ (by decide) _ h
  ·split at h
   ·exact key _ (by decide) _ h
   ·split at h
    ·rename_i o' ho'
     injection h with h
     subst h
     exact key _ (by decide) _ ho'
    ·exact key _ (by decide) _ h
theorem fit_mk (o:List UInt8) (n:Nat) (m:List UInt8) (s:List Ex) (h1:o.length<=1000) (h2:n<=65535) (h3:m.length<=1000) (h4:fitL s=true):fitE (.mk o n m s)=true:=by
 simp [fitE,h1,h2,h3,h4]
theorem fit_one {e:Ex} (h:fitE e=true):fitL [e]=true:=by simp [fitL,h]
theorem fit_two {a b:Ex} (h:fitE a=true) (h':fitE b=true):fitL [a,b]=true:=by simp [fitL,h,h']
theorem fit_ex0:fitE ex0=true:=by decide
theorem ts_fail (s:PS) (k:Nat):(s.fail k).ts=s.ts:=by unfold PS.fail;split <;> rfl
def Fit (p:Ex × PS):Prop:=fitE p.1=true/\okT p.2.ts
theorem Fit.fail {s:PS} (h:okT s.ts) (k:Nat):Fit (ex0,s.fail k):=⟨fit_ex0,by rw [ts_fail];exact h⟩
theorem wIn_fit {go:PS->Ex × PS} (h:∀ s,okT s.ts->Fit (go s)) (s:PS) (hs:okT s.ts):Fit (wIn go s):=by
 unfold wIn
 simp only
 split
 ·exact Fit.fail (s:={ s with op:=s.op+1 }) hs 11
 ·exact h _ hs
theorem atom_fit {go:PS->Ex × PS} (h:∀ s,okT s.ts->Fit (go s)) (s:PS) (hs:okT s.ts):Fit (atomP go s):=by
 have hk:okT s.skip.ts:=hs.drop 1
 unfold atomP
 split
 ·exact Fit.fail hs 2
 ·rename_i t r hts
  have ht:=hs t (by rw [hts];simp)
  split
  ·split
   ·exact Fit.fail hk 2
   ·exact ⟨fit_mk _ _ _ _ (by decide) (by omega) ht.2 rfl,hk⟩
  ·split
   ·exact ⟨fit_mk _ _ _ _ (by decide) ht.1 (by simp) rfl,hk⟩
   ·split
    ·split
     ·exact ⟨fit_mk _ _ _ _ (by decide) (valueL_le _).2 (by simp) rfl,hk⟩
     ·exact Fit.fail hk _
    ·split
     ·split
      ·exact ⟨fit_mk _ _ _ _ (by decide) (by omega) (by simp) rfl,hk⟩
      ·split
       ·have hw:=wIn_fit h s.skip hk
        simp only
        split
        ·exact ⟨hw.1,hw.2.drop 1⟩
        ·exact Fit.fail hw.2 2
       ·exact Fit.fail hk 2
     ·exact Fit.fail hk 2
theorem pP_fit:∀ f,(∀ r s,okT s.ts->Fit (pP f r s))/\(∀ r e s,fitE e=true->okT s.ts->Fit (lP f r e s)):=by
 intro f
 induction f with
 | zero=>exact ⟨fun r s hs=>⟨by rw [pP];exact fit_ex0,by rw [pP];exact hs⟩,fun r e s he hs=>⟨by rw [lP];exact he,by rw [lP];exact hs⟩⟩
 | succ f ih=>
  refine ⟨fun r s hs=>?_,fun r e s he hs=>?_⟩
  ·rw [pP_succ]
   split
   ·split
    ·have hw:=wIn_fit (fun q hq=>ih.1 3 q hq) s.skip (hs.drop 1)
     exact ⟨fit_mk _ _ _ _ (by decide) (by omega) (by simp) (fit_one hw.1),hw.2⟩
    ·exact ih.1 4 s hs
   ·split
    ·split
     ·have hw:=wIn_fit (fun q hq=>ih.1 6 q hq) s.skip (hs.drop 1)
      exact ⟨fit_mk _ _ _ _ (by decide) (by omega) (by simp) (fit_one hw.1),hw.2⟩
     ·exact ih.1 7 s hs
    ·split
     ·exact atom_fit (fun q hq=>ih.1 1 q hq) s hs
     ·have hp:=ih.1 (r+1) s hs
      exact ih.2 r _ _ hp.1 hp.2
  ·rw [lP_succ]
   split
   ·split
    ·exact ⟨he,hs⟩
    ·rename_i o ho
     have hp:=ih.1 (r+1) s.skip (hs.drop 1)
     exact ih.2 r _ _ (fit_mk _ _ _ _ (operT_len ho) (by omega) (by simp) (fit_two he hp.1)) hp.2
   ·exact ⟨he,hs⟩
theorem parse_fit (ts:List Tok) (h:okT ts):fitE (parseE ts).1=true:=by
 have hp:=(pP_fit (8 * ts.length+7)).1 1 ⟨ts,0,0⟩ h
 unfold parseE
 simp only
 split
 ·exact fit_ex0
 ·split
  ·exact fit_ex0
  ·exact hp.1
theorem all_fit (ts:List Tok) (h:okT ts):fitE (allE ts).1=true:=by
 have hp:=parse_fit ts h
 unfold allE
 simp only
 split
 ·exact fit_ex0
 ·split
  ·exact fit_ex0
  ·exact hp
theorem mid_ok {ts:List Tok} (h:okT ts):okT (midT ts):=(h.drop 1).take _
end Go.Proofs.YtfdcigbompkeoaaGreatDoor
