/- Kb. -/
import Derived.Test.YtbdnbfacalfciaaGreatDoorKa
namespace Go.Proofs.YtbdnbfacalfciaaGreatDoor
inductive Ex where
 | mk (op:List UInt8) (n:Nat) (name:List UInt8) (sub:List Ex)
namespace Ex
def op:Ex->List UInt8
 | .mk o _ _ _=>o
def n:Ex->Nat
 | .mk _ n _ _=>n
def name:Ex->List UInt8
 | .mk _ _ m _=>m
def sub:Ex->List Ex
 | .mk _ _ _ s=>s
end Ex
theorem Ex.ind {P:Ex->Prop} (h:∀ o n m s,(∀ e∈s,P e)->P (.mk o n m s)) (e:Ex):P e:=
 Ex.rec (motive_1:=P) (motive_2:=fun l=>∀ e∈l,P e) h (by simp) (fun _ _ h1 h2=>by simpa using ⟨h1,h2⟩) e
def ex0:Ex:=.mk [] 0 [] []
abbrev sNum:List UInt8:=[35]
abbrev sN:List UInt8:=[110]
abbrev sHere:List UInt8:=[36]
abbrev sNEG:List UInt8:=[78,69,71]
abbrev sNOT:List UInt8:=[78,79,84]
abbrev sAND:List UInt8:=[65,78,68]
abbrev sOR:List UInt8:=[79,82]
abbrev sXOR:List UInt8:=[88,79,82]
abbrev sMOD:List UInt8:=[77,79,68]
abbrev sSHL:List UInt8:=[83,72,76]
abbrev sSHR:List UInt8:=[83,72,82]
def bindsE (o:List UInt8):Nat × Nat:=
 if o=sNum∨o=sN∨o=sHere then (7,0)
 else if o=sNEG then (6,1)
 else if o = [42]∨o = [47]∨o=sMOD∨o=sSHL∨o=sSHR then (5,2)
 else if o = [43]∨o = [45] then (4,2)
 else if o=sNOT then (3,1)
 else if o=sAND then (2,2)
 else if o=sOR∨o=sXOR then (1,2)
 else (0,0)
def wordE (o:List UInt8):Bool:=decide (o=sOR∨o=sXOR∨o=sAND∨o=sNOT∨o=sMOD∨o=sSHL∨o=sSHR)
mutual
def deepE:Ex->Nat
 | .mk _ _ _ s=>deepL s+1
def deepL:List Ex->Nat
 | []=>0
 | e :: r=>max (deepE e) (deepL r)
end
def headE (o:List UInt8) (n:Nat) (m:List UInt8) (k:Nat):Bool:=
 !((bindsE o).1 == 0) && k == (bindsE o).2 && (n == 0 || o == sNum) && (if o=sN then nameB m && upper m == m && !wordE m else m == [])
mutual
def rightE:Ex->Nat->Bool
 | .mk o n m s,most=>!(most == 0) && headE o n m s.length && rightL s (most - 1)
def rightL:List Ex->Nat->Bool
 | [],_=>true
 | e :: r,most=>rightE e most && rightL r most
end
mutual
def sameE:Ex->Ex->Bool
 | .mk o n m s,.mk o' n' m' s'=>o == o' && n == n' && m == m' && sameL s s'
def sameL:List Ex->List Ex->Bool
 | [],[]=>true
 | e :: r,e' :: r'=>sameE e e' && sameL r r'
 | _,_=>false
end
mutual
def namesE:Ex->List (List UInt8)
 | .mk o _ m s=>(if o=sN then [m] else [])++namesL s
def namesL:List Ex->List (List UInt8)
 | []=>[]
 | e :: r=>namesE e++namesL r
end
def parens (s:List UInt8):List UInt8:=[40,32]++s++[32,41]
def showE:Ex->Nat->List UInt8
 | .mk o n m s,want=>
  if o=sNum then showN n else if o=sN then m else if (bindsE o).2=0 then o
  else
   let t:=match s with
    | [a]=>(if o=sNEG then [45] else o)++32 :: showE a (bindsE o).1
    | [a,b]=>showE a (bindsE o).1++32 :: (o++32 :: showE b ((bindsE o).1+1))
    | _=>[]
   if (bindsE o).1<want then parens t else t
def opT (o:List UInt8):Tok:=if wordE o then (1,o,0) else (4,o,0)
def twoE (o:List UInt8) (a b:Nat):Nat × Nat:=
 if o=sOR then (a ||| b,0) else if o=sXOR then (a ^^^ b,0) else if o=sAND then (a &&& b,0)
 else if o = [43] then ((a+b) % 65536,0) else if o = [45] then ((a+65536 - b) % 65536,0) else if o = [42] then ((a * b) % 65536,0)
 else if o=sSHL then ((a * 2 ^ b) % 65536,0) else if o=sSHR then (a / 2 ^ b,0)
 else if b=0 then (0,5) else if o = [47] then (a / b,0) else (a % b,0)
def evalE (here:Nat) (val:List UInt8->Nat × Nat):Ex->Nat × Nat
 | .mk o n m s=>
  if o=sNum then (n,0) else if o=sHere then (here,0) else if o=sN then val m
  else match s with
   | [a]=>
    let x:=evalE here val a
    if x.2≠0 then (0,x.2) else if o=sNOT then (65535 - x.1,0) else ((65536 - x.1) % 65536,0)
   | [a,b]=>
    let x:=evalE here val a
    if x.2≠0 then (0,x.2) else
     let y:=evalE here val b
     if y.2≠0 then (0,y.2) else twoE o x.1 y.1
   | _=>(0,0)
structure PS where
 ts:List Tok
 k:Nat
 op:Nat
def atT (ts:List Tok) (kind:Int) (ls:List (List UInt8)):Option (List UInt8):=
 match ts with
 | []=>none
 | t :: _=>if t.1=kind/\t.2.1∈ls then some t.2.1 else none
def operT (r:Nat) (ts:List Tok):Option (List UInt8):=
 if r=1 then atT ts 1 [sOR,sXOR] else if r=2 then atT ts 1 [sAND] else if r=4 then atT ts 4 [[43],[45]]
 else match atT ts 4 [[42],[47]] with
  | some o=>some o
  | none=>atT ts 1 [sMOD,sSHL,sSHR]
def PS.fail (s:PS) (k:Nat):PS:=if s.k=0 then { s with k:=k } else s
def PS.skip (s:PS):PS:={ s with ts:=s.ts.drop 1 }
def wIn (go:PS->Ex × PS) (s:PS):Ex × PS:=
 let s1:PS:={ s with op:=s.op+1 }
 if 48<s1.op then (ex0,s1.fail 11) else
  let p:=go s1
  (p.1,{ p.2 with op:=p.2.op - 1 })
def atomP (go:PS->Ex × PS) (s:PS):Ex × PS:=
 match s.ts with
 | []=>(ex0,s.fail 2)
 | t :: _=>
  if t.1=1 then (if wordE t.2.1 then (ex0,s.skip.fail 2) else (.mk sN 0 t.2.1 [],s.skip))
  else if t.1=2 then (.mk sNum t.2.2 [] [],s.skip)
  else if t.1=3 then (if (valueL t.2.1).2=0 then (.mk sNum (valueL t.2.1).1 [] [],s.skip) else (ex0,s.skip.fail (valueL t.2.1).2))
  else if t.1=4 then
   (if t.2.1=sHere then (.mk sHere 0 [] [],s.skip)
   else if t.2.1 = [40] then
    let p:=wIn go s.skip
    if (atT p.2.ts 4 [[41]]).isSome then (p.1,p.2.skip) else (ex0,p.2.fail 2)
   else (ex0,s.skip.fail 2))
  else (ex0,s.skip.fail 2)
mutual
def pP:Nat->Nat->PS->Ex × PS
 | 0,_,s=>(ex0,s)
 | f+1,r,s=>
  if r=3 then
   (if (atT s.ts 1 [sNOT]).isSome then
    let p:=wIn (pP f 3) s.skip
    (.mk sNOT 0 [] [p.1],p.2)
   else pP f 4 s)
  else if r=6 then
   (if (atT s.ts 4 [[45]]).isSome then
    let p:=wIn (pP f 6) s.skip
    (.mk sNEG 0 [] [p.1],p.2)
   else pP f 7 s)
  else if r=7 then atomP (pP f 1) s
  else
   let p:=pP f (r+1) s
   lP f r p.1 p.2
def lP:Nat->Nat->Ex->PS->Ex × PS
 | 0,_,e,s=>(e,s)
 | f+1,r,e,s=>
  if s.k=0 then
   match operT r s.ts with
   | none=>(e,s)
   | some o=>
    let p:=pP f (r+1) s.skip
    lP f r (.mk o 0 [] [e,p.1]) p.2
  else (e,s)
end
def parseE (ts:List Tok):Ex × Nat × Nat:=
 let p:=pP (8 * ts.length+7) 1 ⟨ts,0,0⟩
 if p.2.k≠0 then (ex0,0,p.2.k) else if 24<deepE p.1 then (ex0,0,11) else (p.1,ts.length - p.2.ts.length,0)
def allE (ts:List Tok):Ex × Nat:=
 let p:=parseE ts
 if p.2.2≠0 then (ex0,p.2.2) else if p.2.1<ts.length then (ex0,2) else (p.1,0)
theorem sameL_iff (s:List Ex) (h:∀ e∈s,∀ x,sameE e x=true ↔ e=x):∀ t,sameL s t=true ↔ s=t:=by
 induction s with
 | nil=>intro t;cases t <;> simp [sameL]
 | cons a s ih=>
  intro t
  cases t with
  | nil=>simp [sameL]
  | cons b t=>
   simp only [sameL,Bool.and_eq_true]
   rw [h a (by simp) b,ih (fun e he=>h e (by simp [he])) t]
   simp
theorem sameE_iff (e:Ex):∀ x,sameE e x=true ↔ e=x:=by
 induction e using Ex.ind with
 | h o n m s ih=>
  intro x
  obtain ⟨o',n',m',s'⟩:=x
  simp only [sameE,Bool.and_eq_true,beq_iff_eq]
  rw [sameL_iff s ih s']
  simp [and_assoc]
theorem sameE_refl (e:Ex):sameE e e=true:=(sameE_iff e e).2 rfl
def Inv (s q:PS):Prop:=q.ts.length<=s.ts.length/\(s.op<=48->s.op<=q.op/\q.op<=49/\(q.k=0->q.op=s.op))/\(s.k<=11->q.k<=11)
theorem Inv.refl (s:PS):Inv s s:=⟨Nat.le_refl _,fun h=>⟨Nat.le_refl _,by omega,fun _=>rfl⟩,id⟩
theorem Inv.fail {s q:PS} (h:Inv s q) (k:Nat) (hk:k≠0) (hk2:k<=11):Inv s (q.fail k):=by
 unfold PS.fail
 split
 ·exact ⟨h.1,fun hs=>⟨(h.2.1 hs).1,(h.2.1 hs).2.1,fun h0=>absurd h0 hk⟩,fun _=>hk2⟩
 ·exact h
theorem Inv.skip {s q:PS} (h:Inv s q):Inv s q.skip:=⟨by unfold PS.skip;simp;have:=h.1;omega,h.2.1,h.2.2⟩
theorem Inv.then {s q u:PS} (h:Inv s q) (h1:q.k=0->Inv q u) (h2:q.k≠0->u=q):Inv s u:=by
 by_cases hk:q.k=0
 ·have g:=h1 hk
  refine ⟨Nat.le_trans g.1 h.1,fun hs=>?_,fun hs=>g.2.2 (h.2.2 hs)⟩
  have a:=h.2.1 hs
  have e:=a.2.2 hk
  have b:=g.2.1 (by omega)
  exact ⟨by omega,b.2.1,fun hu=>(b.2.2 hu).trans e⟩
 ·rw [h2 hk];exact h
theorem Inv.wIn {s:PS} {go:PS->Ex × PS} (h:∀ q,Inv q (go q).2):Inv s (wIn go s).2:=by
 unfold Proofs.YtbdnbfacalfciaaGreatDoor.wIn
 dsimp only
 split
 ·rename_i hc
  unfold PS.fail
  dsimp only
  split
  ·exact ⟨Nat.le_refl _,fun hs=>⟨by show s.op<=s.op+1;omega,by show s.op+1<=49;omega,fun h0=>by simp at h0⟩,fun _=>by show (11:Nat)<=11;omega⟩
  ·rename_i hk
   exact ⟨Nat.le_refl _,fun hs=>⟨by show s.op<=s.op+1;omega,by show s.op+1<=49;omega,fun h0=>absurd h0 hk⟩,id⟩
 ·rename_i hc
  have g:=h { s with op:=s.op+1 }
  refine ⟨g.1,fun hs=>?_,g.2.2⟩
  have a:=g.2.1 (by show s.op+1<=48;omega)
  dsimp only at a ⊢
  exact ⟨by omega,by omega,fun h0=>by have:=a.2.2 h0;omega⟩
theorem Inv.of_skip {s u:PS} (h:Inv s.skip u):Inv s u:=⟨by have:=h.1;unfold PS.skip at this;simp at this;omega,h.2.1,h.2.2⟩
theorem valueL_le (l:List UInt8):(valueL l).2<=11/\(valueL l).1<=65535:=by
 unfold valueL
 split
 ·rename_i c;have:=c.toNat_lt;simp;omega
 ·rename_i c d;have:=c.toNat_lt;have:=d.toNat_lt;simp;omega
 ·simp
theorem Inv.atom {s:PS} {go:PS->Ex × PS} (h:∀ q,Inv q (go q).2):Inv s (atomP go s).2:=by
 unfold atomP
 have r:=Inv.refl s
 split
 ·exact r.fail 2 (by omega) (by omega)
 ·split
  ·split
   ·exact r.skip.fail 2 (by omega) (by omega)
   ·exact r.skip
  ·split
   ·exact r.skip
   ·split
    ·split
     ·exact r.skip
     ·rename_i hv;exact r.skip.fail _ hv (valueL_le _).1
    ·split
     ·split
      ·exact r.skip
      ·split
       ·have g:Inv s (Proofs.YtbdnbfacalfciaaGreatDoor.wIn go s.skip).2:=(Inv.wIn h).of_skip
        dsimp only
        split
        ·exact g.skip
        ·exact g.fail 2 (by omega) (by omega)
       ·exact r.skip.fail 2 (by omega) (by omega)
     ·exact r.skip.fail 2 (by omega) (by omega)
theorem pP_succ (f r:Nat) (s:PS):pP (f+1) r s=if r=3 then (if (atT s.ts 1 [sNOT]).isSome then (.mk sNOT 0 [] [(wIn (pP f 3) s.skip).1],(wIn (pP f 3) s.skip).2) else pP f 4 s)
  else if r=6 then (if (atT s.ts 4 [[45]]).isSome then (.mk sNEG 0 [] [(wIn (pP f 6) s.skip).1],(wIn (pP f 6) s.skip).2) else pP f 7 s)
  else if r=7 then atomP (pP f 1) s else lP f r (pP f (r+1) s).1 (pP f (r+1) s).2:=by rw [pP]
theorem lP_succ (f r:Nat) (e:Ex) (s:PS):lP (f+1) r e s=if s.k=0 then (match operT r s.ts with | none=>(e,s) | some o=>lP f r (.mk o 0 [] [e,(pP f (r+1) s.skip).1]) (pP f (r+1) s.skip).2) else (e,s):=by rw [lP] <;> rfl
theorem lP_none (f r:Nat) (e:Ex) (s:PS) (h:s.k≠0∨operT r s.ts=none):lP f r e s=(e,s):=by
 cases f with
 | zero=>rfl
 | succ f=>
  rw [lP_succ]
  by_cases hk:s.k=0
  ·rcases h with h | h
   ·exact absurd hk h
   ·rw [if_pos hk,h]
  ·rw [if_neg hk]
theorem pP_inv:∀ f,(∀ r s,Inv s (pP f r s).2)/\(∀ r e s,Inv s (lP f r e s).2):=by
 intro f
 induction f with
 | zero=>exact ⟨fun r s=>Inv.refl s,fun r e s=>Inv.refl s⟩
 | succ f ih=>
  refine ⟨fun r s=>?_,fun r e s=>?_⟩
  ·rw [pP_succ]
   split
   ·split
    ·exact (Inv.wIn (ih.1 3)).of_skip
    ·exact ih.1 4 s
   ·split
    ·split
     ·exact (Inv.wIn (ih.1 6)).of_skip
     ·exact ih.1 7 s
    ·split
     ·exact Inv.atom (ih.1 1)
     ·exact (ih.1 (r+1) s).then (fun _=>ih.2 r _ _) (fun hk=>by rw [lP_none _ _ _ _ (.inl hk)])
  ·rw [lP_succ]
   split
   ·split
    ·exact Inv.refl s
    ·exact (ih.1 (r+1) s.skip).of_skip.then (fun _=>ih.2 r _ _) (fun hk=>by rw [lP_none _ _ _ _ (.inl hk)])
   ·exact Inv.refl s
def stopT (r:Nat) (rest:List Tok):Prop:=∀ r',r<=r'->r'=1∨r'=2∨r'=4∨r'=5->operT r' rest=none
theorem stopT.up {r r':Nat} {rest:List Tok} (h:stopT r rest) (hr:r<=r'):stopT r' rest:=fun x hx=>h x (by omega)
def Pok (r:Nat) (T:List Tok) (e:Ex) (D:Nat):Prop:=∀ (f:Nat) (s:PS) (rest:List Tok),s.k=0->s.ts=T++rest->s.op+D<=48->stopT r rest->8 * s.ts.length+(8 - r)<=f->pP f r s=(e,{ s with ts:=rest })
def Qok (r:Nat) (T:List Tok) (e:Ex) (D:Nat):Prop:=∀ (f:Nat) (s:PS) (rest:List Tok),s.k=0->s.ts=T++rest->s.op+D<=48->stopT (r+1) rest->8 * s.ts.length+(8 - r)<=f->∃ f',8 * rest.length+(7 - r)<=f'/\pP f r s=lP f' r e { s with ts:=rest }
theorem Pok.more {r:Nat} {T:List Tok} {e:Ex} {D D':Nat} (h:Pok r T e D) (hD:D<=D'):Pok r T e D':=fun f s rest h1 h2 h3 h4 h5=>h f s rest h1 h2 (by omega) h4 h5
theorem Qok.more {r:Nat} {T:List Tok} {e:Ex} {D D':Nat} (h:Qok r T e D) (hD:D<=D'):Qok r T e D':=fun f s rest h1 h2 h3 h4 h5=>h f s rest h1 h2 (by omega) h4 h5
def binR (r:Nat):Prop:=r=1∨r=2∨r=4∨r=5
theorem Pok.q {r:Nat} {T:List Tok} {e:Ex} {D:Nat} (hr:binR r) (h:Pok (r+1) T e D):Qok r T e D:=by
 intro f s rest h1 h2 h3 h4 h5
 have hlen:s.ts.length=T.length+rest.length:=by rw [h2];simp
 obtain ⟨g,rfl⟩:∃ g,f=g+1:=⟨f - 1,by unfold binR at hr;omega⟩
 refine ⟨g,by unfold binR at hr;omega,?_⟩
 have:=h g s rest h1 h2 h3 h4 (by unfold binR at hr;omega)
 rw [pP_succ,if_neg (by unfold binR at hr;omega),if_neg (by unfold binR at hr;omega),if_neg (by unfold binR at hr;omega),this]
theorem Qok.p {r:Nat} {T:List Tok} {e:Ex} {D:Nat} (hr:binR r) (h:Qok r T e D):Pok r T e D:=by
 intro f s rest h1 h2 h3 h4 h5
 obtain ⟨f',_,e'⟩:=h f s rest h1 h2 h3 (h4.up (by omega)) h5
 rw [e',lP_none _ _ _ _ (.inr (h4 r (Nat.le_refl _) hr))]
theorem Qok.two {r:Nat} {T1 T2:List Tok} {a b:Ex} {D:Nat} {o:List UInt8} {t:Tok} (ha:Qok r T1 a D) (hb:Pok (r+1) T2 b D) (ho:∀ X,operT r (t :: X)=some o) (hs:∀ X,stopT (r+1) (t :: X)):Qok r (T1++t :: T2) (.mk o 0 [] [a,b]) D:=by
 intro f s rest h1 h2 h3 h4 h5
 have h2':s.ts=T1++(t :: (T2++rest)):=by rw [h2];simp
 obtain ⟨f',hf,e'⟩:=ha f s _ h1 h2' h3 (hs _) h5
 simp at hf
 obtain ⟨g,rfl⟩:∃ g,f'=g+1:=⟨f' - 1,by omega⟩
 refine ⟨g,by omega,?_⟩
 rw [e',lP_succ,if_pos h1]
 simp only [ho]
 have:=hb g ({ s with ts:=t :: (T2++rest) }:PS).skip rest h1 (by simp [PS.skip]) h3 h4 (by simp [PS.skip];omega)
 rw [this]
 rfl
theorem atT_cons (t:Tok) (X:List Tok) (k:Int) (ls:List (List UInt8)):atT (t :: X) k ls=if t.1=k/\t.2.1∈ls then some t.2.1 else none:=rfl
theorem Pok.not {T:List Tok} {e:Ex} {D:Nat} (h:Pok 4 T e D) (hT:∀ X,atT (T++X) 1 [sNOT]=none):Pok 3 T e D:=by
 intro f s rest h1 h2 h3 h4 h5
 obtain ⟨g,rfl⟩:∃ g,f=g+1:=⟨f - 1,by omega⟩
 rw [pP_succ,if_pos rfl,h2,hT,if_neg (by simp)]
 exact h g s rest h1 h2 h3 (h4.up (by omega)) (by omega)
theorem Pok.neg {T:List Tok} {e:Ex} {D:Nat} (h:Pok 7 T e D) (hT:∀ X,atT (T++X) 4 [[45]]=none):Pok 6 T e D:=by
 intro f s rest h1 h2 h3 h4 h5
 obtain ⟨g,rfl⟩:∃ g,f=g+1:=⟨f - 1,by omega⟩
 rw [pP_succ,if_neg (by omega),if_pos rfl,h2,hT,if_neg (by simp)]
 exact h g s rest h1 h2 h3 (h4.up (by omega)) (by omega)
def binO (o:List UInt8) (r:Nat):Prop:=(r=5/\(o = [42]∨o = [47]∨o=sMOD∨o=sSHL∨o=sSHR))∨(r=4/\(o = [43]∨o = [45]))∨(r=2/\o=sAND)∨(r=1/\(o=sOR∨o=sXOR))
theorem binO.binR {o:List UInt8} {r:Nat} (h:binO o r):binR r:=by unfold binO at h;unfold Proofs.YtbdnbfacalfciaaGreatDoor.binR;omega
theorem binO.binds {o:List UInt8} {r:Nat} (h:binO o r):bindsE o=(r,2)/\o≠sNum/\o≠sN/\o≠sNEG/\o≠sHere/\o≠sNOT:=by
 rcases h with ⟨rfl,rfl | rfl | rfl | rfl | rfl⟩ | ⟨rfl,rfl | rfl⟩ | ⟨rfl,rfl⟩ | ⟨rfl,rfl | rfl⟩ <;> decide
theorem head_cases (o:List UInt8) (n:Nat) (m:List UInt8) (k:Nat) (h:headE o n m k=true) :
  (o=sNum/\k=0/\m = [])∨(o=sN/\k=0/\n=0/\nameB m=true/\upper m=m/\wordE m=false)∨(o=sHere/\k=0/\n=0/\m = [])∨(o=sNEG/\k=1/\n=0/\m = [])∨(o=sNOT/\k=1/\n=0/\m = [])∨(∃ r,binO o r/\k=2/\n=0/\m = []):=by
 unfold headE at h
 simp only [Bool.and_eq_true,Bool.not_eq_true',beq_eq_false_iff_ne,beq_iff_eq,Bool.or_eq_true] at h
 obtain ⟨⟨⟨h1,h2⟩,h3⟩,h4⟩:=h
 by_cases c1:o=sNum
 ·subst c1
  exact .inl ⟨rfl,h2,by simpa using h4⟩
 have hn:n=0:=by rcases h3 with h | h;exact h;exact absurd h c1
 by_cases c2:o=sN
 ·subst c2
  simp at h4
  exact .inr (.inl ⟨rfl,h2,hn,h4.1.1,h4.1.2,h4.2⟩)
 rw [if_neg c2] at h4
 have hm:m = []:=by simpa using h4
 by_cases c3:o=sHere
 ·subst c3;exact .inr (.inr (.inl ⟨rfl,h2,hn,hm⟩))
 by_cases c4:o=sNEG
 ·subst c4;exact .inr (.inr (.inr (.inl ⟨rfl,h2,hn,hm⟩)))
 by_cases c5:o=sNOT
 ·subst c5;exact .inr (.inr (.inr (.inr (.inl ⟨rfl,h2,hn,hm⟩))))
 refine .inr (.inr (.inr (.inr (.inr ?_))))
 have hb:∃ r,binO o r:=by
  unfold bindsE at h1
  rw [if_neg (by rintro (h | h | h);exact c1 h;exact c2 h;exact c3 h),if_neg c4] at h1
  by_cases d1:o = [42]∨o = [47]∨o=sMOD∨o=sSHL∨o=sSHR
  ·exact ⟨5,.inl ⟨rfl,d1⟩⟩
  rw [if_neg d1] at h1
  by_cases d2:o = [43]∨o = [45]
  ·exact ⟨4,.inr (.inl ⟨rfl,d2⟩)⟩
  rw [if_neg d2,if_neg c5] at h1
  by_cases d3:o=sAND
  ·exact ⟨2,.inr (.inr (.inl ⟨rfl,d3⟩))⟩
  rw [if_neg d3] at h1
  by_cases d4:o=sOR∨o=sXOR
  ·exact ⟨1,.inr (.inr (.inr ⟨rfl,d4⟩))⟩
  rw [if_neg d4] at h1
  exact absurd rfl h1
 obtain ⟨r,hr⟩:=hb
 exact ⟨r,hr,by rw [h2,hr.binds.1],hn,hm⟩
inductive Form:Ex->Nat->Prop
 | num (n d:Nat):Form (.mk sNum n [] []) (d+1)
 | name (m:List UInt8) (d:Nat) (h1:nameB m=true) (h2:upper m=m) (h3:wordE m=false):Form (.mk sN 0 m []) (d+1)
 | here (d:Nat):Form (.mk sHere 0 [] []) (d+1)
 | neg (a:Ex) (d:Nat) (h:rightE a d=true):Form (.mk sNEG 0 [] [a]) (d+1)
 | not (a:Ex) (d:Nat) (h:rightE a d=true):Form (.mk sNOT 0 [] [a]) (d+1)
 | two (o:List UInt8) (r:Nat) (a b:Ex) (d:Nat) (ho:binO o r) (h1:rightE a d=true) (h2:rightE b d=true):Form (.mk o 0 [] [a,b]) (d+1)
theorem rightE.form {e:Ex} {most:Nat} (h:rightE e most=true):Form e most:=by
 obtain ⟨o,n,m,s⟩:=e
 simp only [rightE,Bool.and_eq_true,Bool.not_eq_true',beq_eq_false_iff_ne] at h
 obtain ⟨⟨h0,h1⟩,h2⟩:=h
 obtain ⟨d,rfl⟩:∃ d,most=d+1:=⟨most - 1,by omega⟩
 rw [Nat.add_sub_cancel] at h2
 rcases head_cases o n m s.length h1 with ⟨rfl,hk,rfl⟩ | ⟨rfl,hk,rfl,g1,g2,g3⟩ | ⟨rfl,hk,rfl,rfl⟩ | ⟨rfl,hk,rfl,rfl⟩ | ⟨rfl,hk,rfl,rfl⟩ | ⟨r,hr,hk,rfl,rfl⟩
 ·rw [List.eq_nil_of_length_eq_zero hk];exact .num n d
 ·rw [List.eq_nil_of_length_eq_zero hk];exact .name m d g1 g2 g3
 ·rw [List.eq_nil_of_length_eq_zero hk];exact .here d
 ·match s,hk with
  | [a],_=>simp [rightL] at h2;exact .neg a d h2
 ·match s,hk with
  | [a],_=>simp [rightL] at h2;exact .not a d h2
 ·match s,hk with
  | [a,b],_=>simp [rightL] at h2;exact .two o r a b d hr h2.1 h2.2
theorem show_num (n w:Nat):showE (.mk sNum n [] []) w=showN n:=rfl
theorem show_name (m:List UInt8) (w:Nat):showE (.mk sN 0 m []) w=m:=rfl
theorem show_here (w:Nat):showE (.mk sHere 0 [] []) w=sHere:=rfl
theorem show_neg (a:Ex) (w:Nat):showE (.mk sNEG 0 [] [a]) w=if 6<w then parens ([45]++32 :: showE a 6) else [45]++32 :: showE a 6:=rfl
theorem show_not (a:Ex) (w:Nat):showE (.mk sNOT 0 [] [a]) w=if 3<w then parens (sNOT++32 :: showE a 3) else sNOT++32 :: showE a 3:=rfl
theorem show_two {o:List UInt8} {r:Nat} (ho:binO o r) (a b:Ex) (w:Nat):showE (.mk o 0 [] [a,b]) w=if r<w then parens (showE a r++32 :: (o++32 :: showE b (r+1))) else showE a r++32 :: (o++32 :: showE b (r+1)):=by
 rcases ho with ⟨rfl,rfl | rfl | rfl | rfl | rfl⟩ | ⟨rfl,rfl | rfl⟩ | ⟨rfl,rfl⟩ | ⟨rfl,rfl | rfl⟩ <;> rfl
mutual
def fitE:Ex->Bool
 | .mk o n m s=>decide (n<=65535) && decide (o.length<=1000) && decide (m.length<=1000) && fitL s
def fitL:List Ex->Bool
 | []=>true
 | e :: r=>fitE e && fitL r
end
def numE (n:Nat):Ex:=.mk sNum n [] []
theorem eval_num (here:Nat) (val:List UInt8->Nat × Nat) (n:Nat):evalE here val (numE n)=(n,0):=by simp [numE,evalE]
theorem unquote_short (l:List UInt8):(unquote l).1.length<=l.length:=by
 unfold unquote
 split
 ·simp
 ·rw [unq_eq]
  split
  ·simp [unqEnd]
  ·have h:=hal_length _ (inner l) (Nat.le_refl _)
   have h2:(inner l).length<=l.length:=by unfold inner;rw [List.length_drop,List.length_take];omega
   show (hal (inner l)).length<=_
   omega
theorem firstT_short (s:List UInt8) (h:s≠[]):(firstT s).1.2.1.length<=s.length:=by
 have h0:1<=s.length:=List.length_pos_iff.mpr h
 unfold firstT
 simp only
 split
 ·split
  ·simp [tok0]
  ·rw [upper_length,List.length_take];omega
 ·split
  ·simp
  ·split
   ·split
    ·simp [tok0]
    ·exact Nat.le_trans (unquote_short _) (by rw [List.length_take];omega)
   ·split
    ·simpa using h0
    ·simp [tok0]
theorem lineF_short (f:Nat) (s:List UInt8) (ts:List Tok) (m:Nat) (h:s.length<f) (hm:s.length<=m) (hg:∀ t∈ts,t.2.1.length<=m):∀ t∈(lineF f s ts).1,t.2.1.length<=m:=by
 induction f generalizing s ts with
 | zero=>omega
 | succ f ih=>
  match s with
  | []=>rw [lineF_nil];exact hg
  | c :: r=>
   simp at h
   by_cases h1:c=32∨c=9
   ·rw [lineF_space _ _ _ _ h1];exact ih r ts (by omega) (by simp at hm;omega) hg
   by_cases h2:c=59
   ·rw [lineF_note _ _ _ _ h2];exact hg
   rw [lineF_tok _ _ _ _ (fun e=>h1 (.inl e)) (fun e=>h1 (.inr e)) h2]
   split
   ·rename_i hk
    have hlen:=firstT_len (c :: r) (by simp) hk
    refine ih _ _ (by simp at hlen ⊢;omega) (by rw [List.length_drop];omega) ?_
    intro t ht
    rcases List.mem_append.mp ht with ht | ht
    ·exact hg t ht
    ·simp only [List.mem_singleton] at ht;subst ht;exact Nat.le_trans (firstT_short _ (by simp)) hm
   ·simp
theorem lineL_small (l:List UInt8):∀ t∈(lineL l).1,t.2.2<=65535/\t.2.1.length<=1000:=by
 intro t ht
 refine ⟨?_,?_⟩
 ·rcases lineL_good l t ht with h | h | h | h
  ·rw [h.2.2.2];omega
  ·exact h.2.2
  ·rw [h.2.2];omega
  ·rw [h.2.2];omega
 ·unfold lineL at ht
  split at ht
  ·simp at ht
  ·exact lineF_short _ _ _ 1000 (by omega) (by omega) (by simp) t ht
theorem lineF_count (f:Nat) (t:List UInt8) (ts:List Tok) (h:t.length<f):(lineF f t ts).1.length<=ts.length+t.length:=by
 induction f generalizing t ts with
 | zero=>omega
 | succ f ih=>
  match t with
  | []=>rw [lineF_nil];simp
  | c :: r=>
   simp at h
   by_cases h1:c=32∨c=9
   ·rw [lineF_space _ _ _ _ h1];have:=ih r ts (by omega);simp;omega
   by_cases h2:c=59
   ·rw [lineF_note _ _ _ _ h2];simp
   rw [lineF_tok _ _ _ _ (fun e=>h1 (.inl e)) (fun e=>h1 (.inr e)) h2]
   split
   ·rename_i hk
    have hlen:=firstT_len (c :: r) (by simp) hk
    have hd:((c :: r).drop (firstT (c :: r)).2.1).length=(c :: r).length - (firstT (c :: r)).2.1:=List.length_drop
    have:=ih ((c :: r).drop (firstT (c :: r)).2.1) (ts++[(firstT (c :: r)).1]) (by simp at hd ⊢;omega)
    simp at this hd hlen ⊢
    omega
   ·simp
theorem lineL_count (l:List UInt8):(lineL l).1.length<=200:=by
 unfold lineL
 split
 ·simp
 ·have:=lineF_count (l.length+1) l [] (by omega)
  simp at this;omega
theorem name_len {m:List UInt8} (h:nameB m=true):m.length<=16:=by
 unfold nameB at h
 simp at h
 omega
theorem bin_len {o:List UInt8} {r:Nat} (ho:binO o r):o.length<=3:=by
 rcases ho with ⟨rfl,rfl | rfl | rfl | rfl | rfl⟩ | ⟨rfl,rfl | rfl⟩ | ⟨rfl,rfl⟩ | ⟨rfl,rfl | rfl⟩ <;> decide
theorem parens_len (s:List UInt8):(parens s).length=s.length+4:=by simp [parens]
theorem show_len (e:Ex):∀ d,rightE e d=true->fitE e=true->∀ w,(showE e w).length+15<=30 * 2 ^ d:=by
 induction e using Ex.ind with
 | h o n m s ih=>
  intro d h hfit w
  have hf:=rightE.form h
  cases hf with
  | num n d=>
   simp [fitE] at hfit
   have h1:=wordT_length (2,[],n) hfit.1
   simp [wordT] at h1
   have h2:1<=2 ^ d:=Nat.one_le_two_pow
   rw [show_num,Nat.pow_succ]
   omega
  | name m d g1 g2 g3=>
   have h1:=name_len g1
   have h2:1<=2 ^ d:=Nat.one_le_two_pow
   rw [show_name,Nat.pow_succ]
   omega
  | here d=>
   have h2:1<=2 ^ d:=Nat.one_le_two_pow
   rw [show_here,Nat.pow_succ]
   simp
   omega
  | neg a d hA=>
   simp [fitE,fitL] at hfit
   have h1:=ih a (by simp) d hA hfit 6
   have h2:1<=2 ^ d:=Nat.one_le_two_pow
   rw [show_neg,Nat.pow_succ]
   split
   ·rw [parens_len];simp;omega
   ·simp;omega
  | not a d hA=>
   simp [fitE,fitL] at hfit
   have h1:=ih a (by simp) d hA hfit 3
   have h2:1<=2 ^ d:=Nat.one_le_two_pow
   rw [show_not,Nat.pow_succ]
   split
   ·rw [parens_len];simp;omega
   ·simp;omega
  | two o r a b d ho h1 h2=>
   simp [fitE,fitL] at hfit
   have g1:=ih a (by simp) d h1 hfit.2.1 r
   have g2:=ih b (by simp) d h2 hfit.2.2 (r+1)
   have g3:=bin_len ho
   have g4:1<=2 ^ d:=Nat.one_le_two_pow
   rw [show_two ho,Nat.pow_succ]
   split
   ·rw [parens_len];simp;omega
   ·simp;omega
theorem show_len9 (e:Ex) (d:Nat) (hd:d<=24) (h:rightE e d=true) (hf:fitE e=true) (w:Nat):(showE e w).length<=600000000:=by
 have h1:=show_len e d h hf w
 have h2:2 ^ d<=2 ^ 24:=Nat.pow_le_pow_right (by omega) hd
 omega
structure Ar where
 w:List UInt8
 t:List UInt8
 is:Bool
 mem:Bool
 e:Ex
structure St where
 label:List UInt8
 colon:Bool
 op:List UInt8
 args:List Ar
def ar0:Ar:=⟨[],[],false,false,ex0⟩
def st0:St:=⟨[],false,[],[]⟩
abbrev sDB:List UInt8:=[68,66]
abbrev sEQU:List UInt8:=[69,81,85]
abbrev sSET:List UInt8:=[83,69,84]
def opW:List (List UInt8):=[[79,82],[88,79,82],[65,78,68],[78,79,84],[77,79,68],[83,72,76],[83,72,82]]
def intelW:List (List UInt8):=[[79,82],[88,79,82],[65,78,68],[78,79,84],[77,79,68],[83,72,76],[83,72,82],[65],[66],[67],[68],[69],[72],[76],[77],[83,80],[80,83,87]]
def zilogW:List (List UInt8):=[[79,82],[88,79,82],[65,78,68],[78,79,84],[77,79,68],[83,72,76],[83,72,82],[65],[66],[67],[68],[69],[72],[76],[65,70],[66,67],[68,69],[72,76],[83,80],[78,90],[90],[78,67],[80,79],[80,69],[80],[77]]
def eightW:List (List UInt8):=[[79,82],[88,79,82],[65,78,68],[78,79,84],[77,79,68],[83,72,76],[83,72,82],[65,76],[67,76],[68,76],[66,76],[65,72],[67,72],[68,72],[66,72],[65,88],[67,88],[68,88],[66,88],[83,80],[66,80],[83,73],[68,73]]
def memZ:List (List UInt8):=[[40,66,67,41],[40,68,69,41],[40,72,76,41],[40,83,80,41]]
def mem8:List (List UInt8):=[[91,66,88,93],[91,83,73,93]]
def resB (d:Int) (s:List UInt8):Bool:=if d=0 then decide (s∈intelW) else if d=1 then decide (s∈zilogW) else if d=2 then decide (s∈eightW) else false
def knownB (d:Int):Bool:=decide (0<=d) && decide (d<=2)
def setsB (s:List UInt8):Bool:=decide (s∈[sEQU,sSET])
def greatB (s:List UInt8):Bool:=nameB s && upper s == s
def plainB (d:Int) (s:List UInt8):Bool:=greatB s && !resB d s && !setsB s
def memB (d:Int) (s:List UInt8):Bool:=(decide (d=1) && decide (s∈memZ)) || (decide (d=2) && decide (s∈mem8))
def wordB (d:Int) (s:List UInt8):Bool:=memB d s || (resB d s && !decide (s∈opW))
def emptyA (a:Ar):Bool:=sameE a.e ex0 && !a.mem
def rightA (d:Int) (op:List UInt8) (a:Ar):Bool:=
 if a.w≠[] then emptyA a && a.t == [] && !a.is && wordB d a.w
 else if a.is then emptyA a && op == sDB && (unquote (quoteL a.t)).2 == 0
 else if a.t≠[]∨(a.mem=true/\d=0)∨rightE a.e 24=false then false
 else (namesE a.e).all (plainB d)
def rightS (d:Int) (s:St):Nat:=
 if knownB d=false then 1
 else if s.label≠[]/\plainB d s.label=false then 2
 else if (s.op = []/\s.args≠[])∨(s.op≠[]/\greatB s.op=false) then 2
 else if (setsB s.op=true/\s.label = [])∨s.colon≠(!s.label.isEmpty && !setsB s.op)∨32<s.args.length then 2
 else if s.args.all (rightA d s.op)=false then 2
 else 0
def nameT (ts:List Tok) (i:Nat):Bool:=decide (i<ts.length) && decide ((ts.getD i tok0).1=1)
def markT (ts:List Tok) (i:Nat) (s:List UInt8):Bool:=decide (i<ts.length) && decide ((ts.getD i tok0).1=4) && decide ((ts.getD i tok0).2.1=s)
def pd (o c:List UInt8) (t:Tok) (n:Int):Int:=if t.1=4/\t.2.1=o then n+1 else if t.1=4/\t.2.1=c then n - 1 else n
def pairF (o c:List UInt8):List Tok->Int->Bool
 | [],_=>true
 | [_],_=>true
 | t :: u :: r,n=>if pd o c t n=0 then false else pairF o c (u :: r) (pd o c t n)
def pairT (ts:List Tok) (o c:List UInt8):Bool:=decide (2<=ts.length) && markT ts 0 o && markT ts (ts.length - 1) c && pairF o c ts 0
def midT (ts:List Tok):List Tok:=(ts.drop 1).take (ts.length - 2)
def encT (ts:List Tok) (s:List UInt8):List UInt8:=(ts.getD 0 tok0).2.1++s++(ts.getD (ts.length - 1) tok0).2.1
def inMem (d:Int) (ts:List Tok):Bool:=(decide (d=1) && pairT ts [40] [41]) || (decide (d=2) && pairT ts [91] [93])
def operandL (d:Int) (op:List UInt8) (ts:List Tok):Ar × Nat:=
 if ts = [] then (ar0,2)
 else if ts.length=1/\(ts.getD 0 tok0).1=3/\op=sDB then (⟨[],(ts.getD 0 tok0).2.1,true,false,ex0⟩,0)
 else if ts.length=1/\(ts.getD 0 tok0).1=1/\wordB d (ts.getD 0 tok0).2.1=true then (⟨(ts.getD 0 tok0).2.1,[],false,false,ex0⟩,0)
 else if inMem d ts=true then
  (if (midT ts).length=1/\((midT ts).getD 0 tok0).1=1/\wordB d (encT ts ((midT ts).getD 0 tok0).2.1)=true then (⟨encT ts ((midT ts).getD 0 tok0).2.1,[],false,false,ex0⟩,0)
  else (⟨[],[],false,true,(allE (midT ts)).1⟩,(allE (midT ts)).2))
 else (⟨[],[],false,false,(allE ts).1⟩,(allE ts).2)
def argsL (d:Int) (op:List UInt8):List (List Tok)->List Ar->List Ar × Nat
 | [],acc=>(acc,0)
 | p :: r,acc=>if (operandL d op p).2≠0 then ([],(operandL d op p).2) else argsL d op r (acc++[(operandL d op p).1])
def endS (d:Int) (s:St):St × Nat:=if rightS d s≠0 then (st0,rightS d s) else (s,0)
def headS (l:List Tok):List UInt8 × Bool × List Tok:=
 if nameT l 0 && markT l 1 [58] then ((l.getD 0 tok0).2.1,true,l.drop 2)
 else if nameT l 0 && nameT l 1 && setsB (l.getD 1 tok0).2.1 then ((l.getD 0 tok0).2.1,false,l.drop 1)
 else ([],false,l)
def bodyS (d:Int) (lab:List UInt8) (colon:Bool) (r:List Tok):St × Nat:=
 if r = [] then endS d ⟨lab,colon,[],[]⟩
 else if nameT r 0=false then (st0,2)
 else if 32<(cutL [44] (r.drop 1)).length then (st0,11)
 else if (argsL d (r.getD 0 tok0).2.1 (cutL [44] (r.drop 1)) []).2≠0 then (st0,(argsL d (r.getD 0 tok0).2.1 (cutL [44] (r.drop 1)) []).2)
 else endS d ⟨lab,colon,(r.getD 0 tok0).2.1,(argsL d (r.getD 0 tok0).2.1 (cutL [44] (r.drop 1)) []).1⟩
def parseS (d:Int) (s:List UInt8):St × Nat:=
 if knownB d=false then (st0,1)
 else if (lineL s).2≠0 then (st0,(lineL s).2)
 else bodyS d (headS (lineL s).1).1 (headS (lineL s).1).2.1 (headS (lineL s).1).2.2
def showA (d:Int) (a:Ar):List UInt8:=
 if a.w≠[] then a.w else if a.is then quoteL a.t
 else if a.mem=true/\d=2 then [91]++(if rightE a.e 24 then showE a.e 1 else [])++[93]
 else if a.mem=true then [40]++(if rightE a.e 24 then showE a.e 1 else [])++[41]
 else (if rightE a.e 24 then showE a.e 1 else [])
def labS (s:St):List UInt8:=if s.colon then s.label++[58] else s.label
def wordsS (d:Int) (s:St):List (List UInt8):=[labS s,s.op,[44].intercalate (s.args.map (showA d))].filter (fun x=>!x.isEmpty)
def textS (d:Int) (s:St):List UInt8:=[32].intercalate (wordsS d s)
def showS (d:Int) (s:St):List UInt8 × Nat:=if rightS d s≠0 then ([],rightS d s) else if 200<(textS d s).length then ([],11) else (textS d s,0)
def Tl (R:List UInt8):Prop:=R = [] ∨ ∃ x r,R=x :: r/\tailB x=false/\alnumB x=false/\x≠39
theorem Tl.nil:Tl []:=.inl rfl
theorem Tl.sp (r:List UInt8):Tl (32 :: r):=.inr ⟨32,r,rfl,by decide,by decide,by decide⟩
theorem intel_great:∀ s∈intelW,greatB s=true:=by decide +kernel
theorem zilog_great:∀ s∈zilogW,greatB s=true:=by decide +kernel
theorem eight_great:∀ s∈eightW,greatB s=true:=by decide +kernel
theorem res_great (d:Int) (s:List UInt8) (h:resB d s=true):greatB s=true:=by
 unfold resB at h
 split at h
 ·exact intel_great s (of_decide_eq_true h)
 ·split at h
  ·exact zilog_great s (of_decide_eq_true h)
  ·split at h
   ·exact eight_great s (of_decide_eq_true h)
   ·cases h
theorem mem_form (d:Int) (s:List UInt8) (h:memB d s=true):(d=1/\s∈memZ)∨(d=2/\s∈mem8):=by
 unfold memB at h
 simpa using h
inductive ArF (d:Int) (op:List UInt8):Ar->Prop
 | word (s:List UInt8) (h0:s≠[]) (h:wordB d s=true):ArF d op ⟨s,[],false,false,ex0⟩
 | text (t:List UInt8) (ho:op=sDB) (h:t.any oddB=false):ArF d op ⟨[],t,true,false,ex0⟩
 | expr (mem:Bool) (e:Ex) (hm:mem=true->d≠0) (h:rightE e 24=true) (hn:∀ m∈namesE e,plainB d m=true):ArF d op ⟨[],[],false,mem,e⟩
theorem rightA.form {d:Int} {op:List UInt8} {a:Ar} (h:rightA d op a=true):ArF d op a:=by
 obtain ⟨w,t,is,mem,e⟩:=a
 unfold rightA emptyA at h
 simp only at h
 by_cases h1:w≠[]
 ·rw [if_pos h1] at h
  simp only [Bool.and_eq_true,Bool.not_eq_true',beq_iff_eq] at h
  obtain ⟨⟨⟨⟨g1,rfl⟩,rfl⟩,rfl⟩,g4⟩:=h
  obtain rfl:=(sameE_iff e ex0).1 g1
  exact .word w h1 g4
 ·rw [if_neg h1] at h
  obtain rfl:w = []:=by simpa using h1
  by_cases h2:is=true
  ·subst h2
   simp only [if_true,Bool.and_eq_true,Bool.not_eq_true',beq_iff_eq] at h
   obtain ⟨⟨⟨g1,rfl⟩,rfl⟩,g3⟩:=h
   obtain rfl:=(sameE_iff e ex0).1 g1
   refine .text t rfl ?_
   have:=quote_back t
   cases hh:t.any oddB with
   | false=>rfl
   | true=>rw [hh] at this;simp at this;rw [this] at g3;simp at g3
  ·obtain rfl:is=false:=by simpa using h2
   simp only [Bool.false_eq_true,if_false] at h
   by_cases h3:t≠[]∨(mem=true/\d=0)∨rightE e 24=false
   ·rw [if_pos h3] at h;cases h
   ·rw [if_neg h3] at h
    simp only [not_or,not_and,Bool.not_eq_false,ne_eq,Decidable.not_not] at h3
    obtain ⟨rfl,g1,g2⟩:=h3
    exact .expr mem e g1 g2 (by simpa using h)
theorem inter_one (x:UInt8) (a:List UInt8):[x].intercalate [a]=a:=by simp [List.intercalate,List.intersperse]
theorem inter_cons (x:UInt8) (a b:List UInt8) (r:List (List UInt8)):[x].intercalate (a :: b :: r)=a++x :: [x].intercalate (b :: r):=by simp [List.intercalate,List.intersperse]
def Bal (p:List Tok):Prop:=∀ d cur acc rest,cutF [44] (p++rest) d cur acc=cutF [44] rest d (cur++p) acc
theorem Bal.nil:Bal []:=fun d cur acc rest=>by simp
theorem Bal.one {t:Tok} (h1:isT t [[41],[93]]=false) (h2:isT t [[40],[91]]=false) (h3:isT t [[44]]=false):Bal [t]:=fun d cur acc rest=>by
 rw [List.singleton_append,cutF_eq,h3]
 simp [d2F,d1F,h1,h2]
theorem Bal.op {o:List UInt8} {r:Nat} (ho:binO o r):Bal [opT o]:=by
 rcases ho with ⟨rfl,rfl | rfl | rfl | rfl | rfl⟩ | ⟨rfl,rfl | rfl⟩ | ⟨rfl,rfl⟩ | ⟨rfl,rfl | rfl⟩ <;> exact Bal.one (by decide) (by decide) (by decide)
def Np (o c:List UInt8) (p:List Tok):Prop:=∀ n rest,1<=n->rest≠[]->pairF o c (p++rest) n=pairF o c rest n
theorem pairF_cons (o c:List UInt8) (t:Tok) (rest:List Tok) (n:Int) (h:rest≠[]):pairF o c (t :: rest) n=if pd o c t n=0 then false else pairF o c rest (pd o c t n):=by
 cases rest with
 | nil=>exact absurd rfl h
 | cons u r=>rfl
theorem Np.one {o c:List UInt8} {t:Tok} (h:t.1=4->t.2.1≠o/\t.2.1≠c):Np o c [t]:=fun n rest h1 h2=>by
 have e:pd o c t n=n:=by
  unfold pd
  rw [if_neg (fun hh=>(h hh.1).1 hh.2),if_neg (fun hh=>(h hh.1).2 hh.2)]
 rw [List.singleton_append,pairF_cons _ _ _ _ _ h2,e,if_neg (by omega)]
theorem pairT_one (t:Tok) (o c:List UInt8):pairT [t] o c=false:=by simp [pairT]
structure StF (d:Int) (s:St):Prop where
 known:knownB d=true
 lab:s.label≠[]->plainB d s.label=true
 op0:s.op = []->s.args = []
 op1:s.op≠[]->greatB s.op=true
 sets:setsB s.op=true->s.label≠[]
 colon:s.colon=(!s.label.isEmpty && !setsB s.op)
 few:s.args.length<=32
 args:∀ a∈s.args,ArF d s.op a
theorem rightS.form {d:Int} {s:St} (h:rightS d s=0):StF d s:=by
 unfold rightS at h
 split at h
 ·cases h
 ·rename_i h1
  split at h
  ·cases h
  ·rename_i h2
   split at h
   ·cases h
   ·rename_i h3
    split at h
    ·cases h
    ·rename_i h4
     split at h
     ·cases h
     ·rename_i h5
      simp only [not_or,not_and,Bool.not_eq_false,ne_eq,Decidable.not_not] at h1 h2 h3 h4 h5
      refine ⟨h1,h2,h3.1,h3.2,fun g=>h4.1 g,h4.2.1,by omega,fun a ha=>rightA.form ?_⟩
      exact List.all_eq_true.1 h5 a ha
def okT (ts:List Tok):Prop:=∀ t∈ts,t.2.2<=65535/\t.2.1.length<=1000
theorem okT.drop {ts:List Tok} (h:okT ts) (n:Nat):okT (ts.drop n):=fun t ht=>h t (List.mem_of_mem_drop ht)
theorem okT.take {ts:List Tok} (h:okT ts) (n:Nat):okT (ts.take n):=fun t ht=>h t (List.mem_of_mem_take ht)
theorem atT_len {ts:List Tok} {k:Int} {ls:List (List UInt8)} {o:List UInt8} (h:atT ts k ls=some o):o∈ls:=by
 cases ts with
 | nil=>cases h
 | cons t r=>
  rw [atT_cons] at h
  split at h
  ·rename_i hh;injection h with h;rw [← h];exact hh.2
  ·cases h
theorem operT_len {r:Nat} {ts:List Tok} {o:List UInt8} (h:operT r ts=some o):o.length<=1000:=by
 have key:∀ ls:List (List UInt8),(∀ x∈ls,x.length<=1000)->∀ k,atT ts k ls=some o->o.length<=1000:=fun ls hls k hh=>hls o (atT_len hh)
 unfold operT at h
 split at h
 ·exact key _ (by decide) _ h
 ·split at h
  ·exact key _ (by decide) _ h
  ·split at h
   ·exact key _ (by decide) _ h
   ·split at h
    ·rename_i o' ho'
     injection h with h
     subst h
     exact key _ (by decide) _ ho'
    ·exact key _ (by decide) _ h
theorem fit_mk (o:List UInt8) (n:Nat) (m:List UInt8) (s:List Ex) (h1:o.length<=1000) (h2:n<=65535) (h3:m.length<=1000) (h4:fitL s=true):fitE (.mk o n m s)=true:=by
 simp [fitE,h1,h2,h3,h4]
theorem fit_one {e:Ex} (h:fitE e=true):fitL [e]=true:=by simp [fitL,h]
theorem fit_two {a b:Ex} (h:fitE a=true) (h':fitE b=true):fitL [a,b]=true:=by simp [fitL,h,h']
theorem fit_ex0:fitE ex0=true:=by decide
theorem ts_fail (s:PS) (k:Nat):(s.fail k).ts=s.ts:=by unfold PS.fail;split <;> rfl
def Fit (p:Ex × PS):Prop:=fitE p.1=true/\okT p.2.ts
theorem Fit.fail {s:PS} (h:okT s.ts) (k:Nat):Fit (ex0,s.fail k):=⟨fit_ex0,by rw [ts_fail];exact h⟩
theorem wIn_fit {go:PS->Ex × PS} (h:∀ s,okT s.ts->Fit (go s)) (s:PS) (hs:okT s.ts):Fit (wIn go s):=by
 unfold wIn
 simp only
 split
 ·exact Fit.fail (s:={ s with op:=s.op+1 }) hs 11
 ·exact h _ hs
theorem atom_fit {go:PS->Ex × PS} (h:∀ s,okT s.ts->Fit (go s)) (s:PS) (hs:okT s.ts):Fit (atomP go s):=by
 have hk:okT s.skip.ts:=hs.drop 1
 unfold atomP
 split
 ·exact Fit.fail hs 2
 ·rename_i t r hts
  have ht:=hs t (by rw [hts];simp)
  split
  ·split
   ·exact Fit.fail hk 2
   ·exact ⟨fit_mk _ _ _ _ (by decide) (by omega) ht.2 rfl,hk⟩
  ·split
   ·exact ⟨fit_mk _ _ _ _ (by decide) ht.1 (by simp) rfl,hk⟩
   ·split
    ·split
     ·exact ⟨fit_mk _ _ _ _ (by decide) (valueL_le _).2 (by simp) rfl,hk⟩
     ·exact Fit.fail hk _
    ·split
     ·split
      ·exact ⟨fit_mk _ _ _ _ (by decide) (by omega) (by simp) rfl,hk⟩
      ·split
       ·have hw:=wIn_fit h s.skip hk
        simp only
        split
        ·exact ⟨hw.1,hw.2.drop 1⟩
        ·exact Fit.fail hw.2 2
       ·exact Fit.fail hk 2
     ·exact Fit.fail hk 2
theorem pP_fit:∀ f,(∀ r s,okT s.ts->Fit (pP f r s))/\(∀ r e s,fitE e=true->okT s.ts->Fit (lP f r e s)):=by
 intro f
 induction f with
 | zero=>exact ⟨fun r s hs=>⟨by rw [pP];exact fit_ex0,by rw [pP];exact hs⟩,fun r e s he hs=>⟨by rw [lP];exact he,by rw [lP];exact hs⟩⟩
 | succ f ih=>
  refine ⟨fun r s hs=>?_,fun r e s he hs=>?_⟩
  ·rw [pP_succ]
   split
   ·split
    ·have hw:=wIn_fit (fun q hq=>ih.1 3 q hq) s.skip (hs.drop 1)
     exact ⟨fit_mk _ _ _ _ (by decide) (by omega) (by simp) (fit_one hw.1),hw.2⟩
    ·exact ih.1 4 s hs
   ·split
    ·split
     ·have hw:=wIn_fit (fun q hq=>ih.1 6 q hq) s.skip (hs.drop 1)
      exact ⟨fit_mk _ _ _ _ (by decide) (by omega) (by simp) (fit_one hw.1),hw.2⟩
     ·exact ih.1 7 s hs
    ·split
     ·exact atom_fit (fun q hq=>ih.1 1 q hq) s hs
     ·have hp:=ih.1 (r+1) s hs
      exact ih.2 r _ _ hp.1 hp.2
  ·rw [lP_succ]
   split
   ·split
    ·exact ⟨he,hs⟩
    ·rename_i o ho
     have hp:=ih.1 (r+1) s.skip (hs.drop 1)
     exact ih.2 r _ _ (fit_mk _ _ _ _ (operT_len ho) (by omega) (by simp) (fit_two he hp.1)) hp.2
   ·exact ⟨he,hs⟩
theorem parse_fit (ts:List Tok) (h:okT ts):fitE (parseE ts).1=true:=by
 have hp:=(pP_fit (8 * ts.length+7)).1 1 ⟨ts,0,0⟩ h
 unfold parseE
 simp only
 split
 ·exact fit_ex0
 ·split
  ·exact fit_ex0
  ·exact hp.1
theorem all_fit (ts:List Tok) (h:okT ts):fitE (allE ts).1=true:=by
 have hp:=parse_fit ts h
 unfold allE
 simp only
 split
 ·exact fit_ex0
 ·split
  ·exact fit_ex0
  ·exact hp
theorem mid_ok {ts:List Tok} (h:okT ts):okT (midT ts):=(h.drop 1).take _
end Go.Proofs.YtbdnbfacalfciaaGreatDoor
