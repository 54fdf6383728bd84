/- Kn. -/
import Derived.Test.YtbdnbfacalfciaaGreatDoorKm
import Derived.Test.YtbdnbfacalfciaaGreatDoorKi
import Derived.Test.YtbdnbfacalfciaaGreatDoorKg
import Derived.Test.YtbdnbfacalfciaaGreatDoorKa
import Derived.StillTailTactics
namespace Go.Proofs.YtbdnbfacalfciaaGreatDoor
open Go.RowKit
abbrev arV (a:Ar) (v:Value):Value:=.agg #[.string ⟨a.w.toArray⟩,.string ⟨a.t.toArray⟩,.bool a.is,.bool a.mem,.string ⟨a.e.op.toArray⟩,.int .u16 a.e.n,.string ⟨a.e.name.toArray⟩,v]
def arCells (a:Ar) (v:Value):List Value:=[.string ⟨a.w.toArray⟩,.string ⟨a.t.toArray⟩,.bool a.is,.bool a.mem,.string ⟨a.e.op.toArray⟩,.int .u16 a.e.n,.string ⟨a.e.name.toArray⟩,v]
theorem SubAt.at {w w':World} {B B':Nat} {v:Value} {s:List Ex} (h:SubAt w (· < B) v s) (hb:Below B w w') (hB:B<=B'):SubAt w' (· < B') v s:=(h.bel hb).more (fun x (hx:x<B)=>Nat.lt_of_lt_of_le hx hB)
def ArAt (w:World) (S:Nat->Prop) (v:Value) (l:List Ar):Prop:=∃ (A:Option Addr) (c:Nat) (vs:Nat->Value),v=.slice A l.length c/\l.length<=c/\l.length<=maxLen /\
 (0<l.length->∃ g o,A=some ⟨g,o,none⟩/\S g/\∀ i (hi:i<l.length),∀ j u,(arCells l[i] (vs i))[j]? = some u->w.cell? ⟨g,o+i * 8+j,none⟩=some u) /\
 ∀ i (hi:i<l.length),SubAt w S (vs i) l[i].e.sub
theorem ArAt.keep {w w':World} {S S':Nat->Prop} {v:Value} {l:List Ar} (h:ArAt w S v l) (hk:∀ p:Addr,S p.block->w'.cell? p=w.cell? p) (hS:∀ g,S g->S' g):ArAt w' S' v l:=by
 obtain ⟨A,c,vs,h1,h2,h3,h4,h5⟩:=h
 refine ⟨A,c,vs,h1,h2,h3,fun h0=>?_,fun i hi=>(h5 i hi).keep hk hS⟩
 obtain ⟨g,o,g1,g2,g3⟩:=h4 h0
 exact ⟨g,o,g1,hS g g2,fun i hi j u hu=>(hk _ g2).trans (g3 i hi j u hu)⟩
theorem ArAt.nil (w:World) (S:Nat->Prop):ArAt w S (.slice none 0 0) []:=
 ⟨none,0,fun _=>.slice none 0 0,rfl,Nat.le_refl _,by unfold maxLen;simp,fun h=>absurd h (by simp),fun i hi=>absurd hi (by simp)⟩
theorem ArAt.form {w:World} {S:Nat->Prop} {v:Value} {l:List Ar} (h:ArAt w S v l):∃ A c,v=.slice A l.length c/\l.length<=c/\l.length<=maxLen:=by
 obtain ⟨A,c,vs,h1,h2,h3,h4,h5⟩:=h
 exact ⟨A,c,h1,h2,h3⟩
theorem ArAt.at {w w':World} {B B':Nat} {v:Value} {l:List Ar} (h:ArAt w (· < B) v l) (hb:Below B w w') (hB:B<=B'):ArAt w' (· < B') v l:=h.keep (fun _ hp=>hb.cell hp) (fun x (hx:x<B)=>Nat.lt_of_lt_of_le hx hB)
theorem ArAt.get {w:World} {S:Nat->Prop} {A:Option Addr} {c:Nat} {l:List Ar} (h:ArAt w S (.slice A l.length c) l) (i:Nat) (hi:i<l.length) :
  ∃ g o v,A=some ⟨g,o,none⟩/\S g/\w.cell? ⟨g,o+i * 8,none⟩=some (.string ⟨l[i].w.toArray⟩)/\w.cell? ⟨g,o+i * 8+1,none⟩=some (.string ⟨l[i].t.toArray⟩)/\w.cell? ⟨g,o+i * 8+2,none⟩=some (.bool l[i].is)/\w.cell? ⟨g,o+i * 8+3,none⟩=some (.bool l[i].mem)/\w.cell? ⟨g,o+i * 8+4,none⟩=some (.string ⟨l[i].e.op.toArray⟩)/\w.cell? ⟨g,o+i * 8+5,none⟩=some (.int .u16 l[i].e.n)/\w.cell? ⟨g,o+i * 8+6,none⟩=some (.string ⟨l[i].e.name.toArray⟩)/\w.cell? ⟨g,o+i * 8+7,none⟩=some v/\SubAt w S v l[i].e.sub:=by
 obtain ⟨A',c',vs,h1,h2,h3,h4,h5⟩:=h
 injection h1 with h1 _ _
 subst h1
 obtain ⟨g,o,g1,g2,g3⟩:=h4 (by omega)
 have g:=g3 i hi
 exact ⟨_,o,vs i,g1,g2,g 0 _ rfl,g 1 _ rfl,g 2 _ rfl,g 3 _ rfl,g 4 _ rfl,g 5 _ rfl,g 6 _ rfl,g 7 _ rfl,h5 i hi⟩
abbrev stV (s:St) (v:Value):Value:=.agg #[.string ⟨s.label.toArray⟩,.bool s.colon,.string ⟨s.op.toArray⟩,v]
def arSub (w:World) (S:Nat->Prop) (v:Value) (a:Ar):Prop:=SubAt w S v a.e.sub
theorem arSub_keep:∀ (w w':World) (S S':Nat->Prop) (v:Value) (a:Ar),arSub w S v a->(∀ p:Addr,S p.block->w'.cell? p=w.cell? p)->(∀ g,S g->S' g)->arSub w' S' v a:=fun _ _ _ _ _ _ h hk hS=>SubAt.keep h hk hS
theorem arCells_len (a:Ar) (v:Value):(arCells a v).length=8:=rfl
theorem arCells_one (a:Ar) (v:Value) (h:v.oneCell'=true):∀ u∈arCells a v,u.oneCell'=true:=by
 intro u hu
 simp [arCells] at hu
 rcases hu with rfl | rfl | rfl | rfl | rfl | rfl | rfl | rfl <;> first | rfl | exact h
abbrev ArOwn (w:World) (base:Nat) (v:Value) (l:List Ar) (vs:List Value):Prop:=OwnV arCells arSub 72 8 w base v l vs
theorem own_slice {w:World} {base size n:Nat} {e:TypeId} {v:Value} {xs:List Value} (h:w.ownsRow base e size v n xs) (_:0<size) :
  ∃ A c,v=.slice A n c/\n<=c/\n<=maxLen/\(0<n->∃ g,A=some ⟨g,0,none⟩/\base<=g/\g<w.heap.size/\v.ownBlock=some g/\∀ j u,xs[j]? = some u->w.cell? ⟨g,j,none⟩=some u):=by
 rcases h.2 with ⟨rfl,rfl⟩ | ⟨g,cap,cur,rfl,hb,hg,h1,h2,h3,h4⟩
 ·exact ⟨none,0,rfl,Nat.le_refl _,Nat.zero_le _,fun h=>absurd h (by omega)⟩
 ·refine ⟨_,cap,rfl,h1,Nat.le_trans h1 h2,fun _=>⟨g,rfl,hb,loh hg,rfl,fun j u hu=>?_⟩⟩
  rw [coh hg]
  rw [← h4] at hu
  rw [List.getElem?_take] at hu
  split at hu
  ·simpa using hu
  ·simp at hu
theorem OwnV.arAt {w:World} {base:Nat} {v:Value} {l:List Ar} {vs:List Value} (h:ArOwn w base v l vs):ArAt w (fun g=>base<=g/\g<w.heap.size) v l:=by
 obtain ⟨h1,h2,h3⟩:=h
 obtain ⟨A,c,rfl,hc,hm,hrow⟩:=own_slice h2 (by omega)
 refine ⟨A,c,fun i=>vs.getD i (.slice none 0 0),rfl,hc,hm,fun h0=>?_,fun i hi=>SubAt.more (h3 i hi) (fun g hg=>⟨hg.1,hg.2.1⟩)⟩
 obtain ⟨g,rfl,g1,g2,_,g3⟩:=hrow h0
 refine ⟨g,0,rfl,⟨g1,g2⟩,fun i hi j u hu=>?_⟩
 rw [Nat.zero_add]
 exact g3 _ _ (rowV_get arCells_len l vs h1 i hi j u hu)
end Go.Proofs.YtbdnbfacalfciaaGreatDoor
