/- Several texts in one: Open, OpenEx, OpenSt, LnSt, RewriteStmts. -/
import Derived.Test.YtijgppokofganaaGreatDoorKa
import Derived.Deep.Slices
import Derived.Deep.Fields
import Derived.ChangeSame
import Derived.WideKeyArgs
import Derived.KernelRfl
import Derived.OpenShut
import Derived.Test.YtijgppokofganaaGreatDoorKe
import Derived.Test.YtijgppokofganaaGreatDoorXr
import Derived.Test.YtijgppokofganaaGreatDoorKm
import Derived.ProofKit
import Derived.Lib.LaidTab
import Derived.Shelf.Vars
import Derived.MakeChecks
import Derived.Stop.LaidErr
import Derived.Test.YtijgppokofganaaGreatDoorCards
import Derived.Test.YtijgppokofganaaGreatDoorTie
import Derived.ShutString
import Derived.ChangeOld
import Derived.Below
import Derived.Deep.DeepHandedRow
import Derived.Deep.DeepLaidRun
import Derived.Deep.DeepWitnessRowRef
namespace Go.Proofs.YtijgppokofganaaGreatDoor
open Go.RowKit Go.ChangeShapes Go.WideShapes Go.Deep
section
variable {H:Type} {enc:TypeId × Value->H} {P:Program} {w:World} {base:Nat} {spare:Nat->Bool} {held:Bool}
theorem open_slice_fields {t e:TypeId} {fs:Array Field} {fuel:Nat} {cs:List Value} {x:DataW H × List MemPlace} (ht:P.underlying t=some (.slice e)) (he:P.underlying e=some (.struct fs))
  (hone:oneCellFields P fs=true) (hC:P.cellsOf e=fs.size) (h:DataW.trod enc P w base spare held fuel t cs=some x) :
  (cs = [.slice none 0 0]/\x=(.nil,[])) ∨
  ∃ (a:Addr) (len cap m:Nat) (D:Nat->DataW H) (Pl:Nat->List MemPlace),cs = [.slice (some a) len cap]/\base<=a.block/\len<=cap/\cap<=maxLen/\m=(if spare a.block then cap else len) /\
   x=(.slice ((List.range len).map D) ((List.range (m - len)).map fun j=>D (len+j)),MemPlace.row a (m * fs.size)++(List.range m).flatMap Pl) /\
   ∀ i,i<m->∃ (ys:List (DataW H × List MemPlace)) (n:Nat),D i=.agg (ys.map (·.1))/\Pl i=ys.flatMap (·.2)/\ys.length=fs.size /\
    ∀ (j:Nat) (f:Field),fs[j]? = some f->∃ (v:Value) (y:DataW H × List MemPlace),w.cell? (a.add (i * fs.size+j))=some v/\ys[j]? = some y/\DataW.trod enc P w base spare held n f.type [v]=some y:=by
 rcases open_slice ht h with h0 | ⟨a,len,cap,m,n,D,Pl,hcs,hb,hl,hm,hmm,hx,hi⟩
 ·exact .inl h0
 ·refine .inr ⟨a,len,cap,m,D,Pl,hcs,hb,hl,hm,hmm,by rw [hC] at hx;exact hx,fun i him=>?_⟩
  obtain ⟨cs',hc,ht'⟩:=hi i him
  rw [hC] at hc
  obtain ⟨ys,n',hn',hy,hlen,hyl,hf⟩:=DataW.trod_struct he ht'
  obtain ⟨_,hcl,hat⟩:=World.cells?_some hc
  simp only [Prod.mk.injEq] at hy
  refine ⟨ys,n',hy.1,hy.2,hyl,fun j f hj=>?_⟩
  obtain ⟨ho,hk⟩:=hone_of hone j f hj
  have hjl:j<fs.size:=(Array.getElem?_eq_some_iff.1 hj).1
  have hcell:=hat j hjl
  have hv:cs'[j]? = some (cs'[j]'(by omega)):=List.getElem?_eq_getElem (by omega)
  have h1:=hf j f hj
  rw [ho,hk] at h1
  have hone':(cs'.drop j).take 1 = [cs'[j]'(by omega)]:=by
   rw [List.drop_eq_getElem_cons (by omega)]
   rfl
  rw [hone'] at h1
  have hys:ys[j]? = some (ys[j]'(by omega)):=List.getElem?_eq_getElem (by omega)
  refine ⟨_,_,?_,hys,h1.trans hys⟩
  rw [← Go.Deep.add_add,hcell,hv]
end
theorem laid_out:laidOutB Tryz.prog=true:=by kernel_rfl
/-- An argument reads behind the call as before. -/
theorem stays {H:Type} {enc:TypeId × Value->H} {W W':World} {t:TypeId} {v:Value} {d:DataW H} {ps:List MemPlace} (hr:Tryz.prog.readableRec t=true) (hrow:t < Tryz.prog.types.size)
  (h:DataW.Trod enc Tryz.prog W 0 (fun _=>true) true t v d ps) (hlt:∀ p∈ps,p.block<W.heap.size) (bel:Below W.heap.size W W'):DataW.Trod enc Tryz.prog W' 0 (fun b=>decide (b<W.heap.size)) true t v d ps:=
 Go.WideElems.Trod_stays laid_out hr hrow h (fun p hp=>bel.same (hlt p hp)) (fun p hp=>by simpa using hlt p hp)
theorem flat_get {α:Type} (f:α->List Value) (C:Nat) (hC:∀ a,(f a).length=C) (rows:List α):∀ (j:Nat) (u:Value),(rows.flatMap f)[j]? = some u->∃ (i r:Nat) (hi:i<rows.length),r<C/\j=i * C+r/\(f rows[i])[r]? = some u:=by
 induction rows with
 | nil=>intro j u h;simp at h
 | cons a rows ih=>
  intro j u h
  rw [List.flatMap_cons] at h
  by_cases hj:j<(f a).length
  ·rw [List.getElem?_append_left hj] at h
   exact ⟨0,j,by simp,by rw [← hC a];exact hj,by simp,h⟩
  ·rw [List.getElem?_append_right (by omega)] at h
   obtain ⟨i,r,hi,hr,hj2,hu⟩:=ih _ u h
   rw [hC a] at hj2 hj
   exact ⟨i+1,r,by simp;omega,hr,by rw [Nat.succ_mul];omega,by simpa using hu⟩
/-- A slice whose elements' cells read as rows. -/
theorem Rd.of_cells {α:Type} (f:α->List Value) (C:Nat) (hC:∀ a,(f a).length=C) (hpos:0<C) {w:World} {a:Addr} {len cap:Nat} (hl:len<=cap) (rows:List α) (hrl:rows.length=len)
  (hc:∀ (i:Nat) (hi:i<rows.length) (r:Nat),r<C->w.cell? (a.add (i * C+r))=(f rows[i])[r]?):Rd w w.heap.size (.slice (some a) len cap) len (rows.flatMap f):=by
 refine ⟨some a,cap,rfl,hl,fun hn=>?_⟩
 obtain ⟨g,o,s⟩:=a
 have h0:=hc 0 (by omega) 0 hpos
 rw [List.getElem?_eq_getElem (by rw [hC];exact hpos)] at h0
 have hspot:s=none:=by simpa [Addr.add] using World.cell?_spot h0
 subst hspot
 rw [addr_add] at h0
 refine ⟨g,o,rfl,World.block_lt_of_cell? _ _ h0,fun j u hu=>?_⟩
 obtain ⟨i,r,hi,hr,rfl,hu2⟩:=flat_get f C hC rows j u hu
 rw [← addr_add,hc i hi r hr,hu2]
theorem fields_expr:∃ f0 f1 f2 f3:Field,Tryz.prog.underlying 34=some (.struct #[f0,f1,f2,f3])/\oneCellFields Tryz.prog #[f0,f1,f2,f3]=true/\f0.type=9/\f1.type=31/\f2.type=9/\f3.type=32:=⟨_,_,_,_,Tryz.underlying34,by kernel_rfl,rfl,rfl,rfl,rfl⟩
instance:Inhabited Ex:=⟨ex0⟩
theorem cells_expr:Tryz.prog.cellsOf 34=4:=by kernel_rfl
/-- A part that came in. -/
def InAt (W:World) (v0 v1 v2 v3:Value) (e:Ex):Prop:=
 v0=.string ⟨e.op.toArray⟩/\v1=.int .u16 e.n/\v2=.string ⟨e.name.toArray⟩/\SubAt W (· < W.heap.size) v3 e.sub/\e.n<=65535/\e.op.length<=maxLen/\e.name.length<=maxLen
theorem list4 {α:Type} {l:List α} (h:l.length=4):∃ a b c d,l = [a,b,c,d]:=by
 match l,h with
 | [a,b,c,d],_=>exact ⟨a,b,c,d,rfl⟩
theorem open_sub {H:Type} {enc:TypeId × Value->H} {W:World}:∀ (fuel:Nat) (v:Value) (x:DataW H × List MemPlace),DataW.trod enc Tryz.prog W 0 (fun _=>true) true fuel 32 [v]=some x->∃ sub:List Ex,SubAt W (· < W.heap.size) v sub:=by
 intro fuel
 induction fuel using Nat.strongRecOn with
 | ind fuel ih=>
  intro v x h
  obtain ⟨f0,f1,f2,f3,hs,hone,t0,t1,t2,t3⟩:=fields_expr
  rcases DataW.trod_slice Tryz.underlying32 h with ⟨hcs,_⟩ | ⟨a,len,cap,elems,rest,n,hfu,hcs,hx,hb,hl,hm,hlen,hel,hsp,hns⟩
  ·simp at hcs
   subst hcs
   exact ⟨[],SubAt.nil _ _⟩
  ·simp at hcs
   subst hcs
   rw [cells_expr] at hel
   obtain ⟨F,hF⟩:=choose_lt (α:=Ex × Value) (n:=len) (p:=fun i q=>∃ v0 v1 v2,W.cell? (a.add (i * 4))=some v0/\W.cell? (a.add (i * 4+1))=some v1/\W.cell? (a.add (i * 4+2))=some v2/\W.cell? (a.add (i * 4+3))=some q.2/\InAt W v0 v1 v2 q.2 q.1) (fun i hi=>by
    have h1:=hel i hi
    rw [List.getElem?_eq_getElem (by omega)] at h1
    obtain ⟨cs',hc,ht'⟩:=Option.bind_eq_some_iff.1 h1
    obtain ⟨ys,n',hn',hy,hlen',hyl,hf⟩:=DataW.trod_struct hs ht'
    obtain ⟨_,hcl,hat⟩:=World.cells?_some hc
    obtain ⟨c0,c1,c2,c3,rfl⟩:=list4 hcl
    obtain ⟨y0,y1,y2,y3,rfl⟩:=list4 (hyl.trans rfl)
    obtain ⟨o0,k0⟩:=hone_of hone 0 f0 rfl
    obtain ⟨o1,k1⟩:=hone_of hone 1 f1 rfl
    obtain ⟨o2,k2⟩:=hone_of hone 2 f2 rfl
    obtain ⟨o3,k3⟩:=hone_of hone 3 f3 rfl
    have r0:=hf 0 f0 rfl
    have r1:=hf 1 f1 rfl
    have r2:=hf 2 f2 rfl
    have r3:=hf 3 f3 rfl
    rw [o0,k0,t0] at r0
    rw [o1,k1,t1] at r1
    rw [o2,k2,t2] at r2
    rw [o3,k3,t3] at r3
    have a0:=hat 0 (by omega)
    have a1:=hat 1 (by omega)
    have a2:=hat 2 (by omega)
    have a3:=hat 3 (by omega)
    rw [Go.Deep.add_add] at a0 a1 a2 a3
    obtain ⟨⟨⟨s0⟩⟩,g0,_,w0⟩:=DataW.trod_string Tryz.underlying9 r0
    obtain ⟨n1,g1,_,wf1⟩:=DataW.trod_int Tryz.underlying31 r1
    obtain ⟨⟨⟨s2⟩⟩,g2,_,w2⟩:=DataW.trod_string Tryz.underlying9 r2
    have b1:=bounds_u16 wf1
    obtain ⟨sub,hsub⟩:=ih n' (by omega) c3 _ r3
    simp at g0 g1 g2
    subst g0 g1 g2
    refine ⟨(.mk s0 n1.toNat s2 sub,c3),_,_,_,a0,a1,a2,a3,rfl,?_,rfl,hsub,?_,?_,?_⟩
    ·show Value.int .u16 n1=Value.int .u16 (n1.toNat:Int)
     rw [Int.toNat_of_nonneg b1.1]
    ·show n1.toNat<=65535
     omega
    ·show s0.length<=maxLen
     simpa [ByteArray.size] using w0
    ·show s2.length<=maxLen
     simpa [ByteArray.size] using w2)
   have hll:((List.range len).map fun i=>(F i).1).length=len:=by simp
   have hg:∀ i (hi:i<((List.range len).map fun i=>(F i).1).length),((List.range len).map fun i=>(F i).1)[i]=(F i).1:=fun i hi=>by simp
   have key:SubAt W (· < W.heap.size) (.slice (some a) ((List.range len).map fun i=>(F i).1).length cap) ((List.range len).map fun i=>(F i).1):=by
    refine .mk (some a) cap _ (fun i=>(F i).2) (by omega) (by omega) (fun h0=>?_) (fun i hi=>?_) (fun i hi=>?_)
    ·obtain ⟨g,o,s⟩:=a
     obtain ⟨_,_,_,q0,_⟩:=hF 0 (by omega)
     have hspot:s=none:=by simpa [Addr.add] using World.cell?_spot q0
     subst hspot
     rw [addr_add] at q0
     refine ⟨g,o,rfl,World.block_lt_of_cell? _ _ q0,fun i hi=>?_⟩
     obtain ⟨v0,v1,v2,c0,c1,c2,c3,rfl,rfl,rfl,_⟩:=hF i (by omega)
     rw [addr_add] at c0 c1 c2 c3
     rw [hg i hi]
     exact ⟨c0,c1,c2,c3⟩
    ·obtain ⟨_,_,_,_,_,_,_,_,_,_,_,h5⟩:=hF i (by omega)
     rw [hg i hi]
     exact h5
    ·obtain ⟨_,_,_,_,_,_,_,_,_,_,h4,_⟩:=hF i (by omega)
     rw [hg i hi]
     exact h4
   rw [hll] at key
   exact ⟨_,key⟩
set_option maxRecDepth 100000 in
theorem open_expr {H:Type} {enc:TypeId × Value->H} {W:World} {base:Nat} {v:Value} {d:DataW H} {ps:List MemPlace} (hv:Value.okWide Tryz.prog W .any base 34 v)
  (h:DataW.Trod enc Tryz.prog W 0 (fun _=>true) true 34 v d ps):∃ (e:Ex) (vs:Value),v=exV e vs/\SubAt W (· < W.heap.size) vs e.sub/\okE e:=by
 obtain ⟨f0,f1,f2,f3,hs,hone,t0,t1,t2,t3⟩:=fields_expr
 obtain ⟨v0,v1,v2,v3,y0,y1,y2,y3,n,rfl,_,_,r0,r1,r2,r3⟩:=Joins.open_agg4 hs hone cells_expr hv h
 rw [t0] at r0
 rw [t1] at r1
 rw [t2] at r2
 rw [t3] at r3
 obtain ⟨⟨⟨s0⟩⟩,g0,_,w0⟩:=DataW.trod_string Tryz.underlying9 r0
 obtain ⟨n1,g1,_,wf1⟩:=DataW.trod_int Tryz.underlying31 r1
 obtain ⟨⟨⟨s2⟩⟩,g2,_,w2⟩:=DataW.trod_string Tryz.underlying9 r2
 have b1:=bounds_u16 wf1
 obtain ⟨sub,hsub⟩:=open_sub n v3 _ r3
 simp at g0 g1 g2
 subst g0 g1 g2
 refine ⟨.mk s0 n1.toNat s2 sub,v3,?_,hsub,?_,?_,?_⟩
 ·show Value.agg #[.string ⟨⟨s0⟩⟩,.int .u16 n1,.string ⟨⟨s2⟩⟩,v3]=Value.agg #[.string ⟨⟨s0⟩⟩,.int .u16 (n1.toNat:Int),.string ⟨⟨s2⟩⟩,v3]
  rw [Int.toNat_of_nonneg b1.1]
 ·show n1.toNat<=65535
  omega
 ·show s0.length<=maxLen
  simpa [ByteArray.size] using w0
 ·show s2.length<=maxLen
  simpa [ByteArray.size] using w2
theorem fields_arg:∃ f0 f1 f2 f3 f4:Field,Tryz.prog.underlying 36=some (.struct #[f0,f1,f2,f3,f4])/\(f0.offset=0/\f0.type=9)/\(f1.offset=1/\f1.type=9)/\(f2.offset=2/\f2.type=4)/\(f3.offset=3/\f3.type=4)/\(f4.offset=4/\f4.type=34):=⟨_,_,_,_,_,Tryz.underlying36,⟨rfl,rfl⟩,⟨rfl,rfl⟩,⟨rfl,rfl⟩,⟨rfl,rfl⟩,⟨rfl,rfl⟩⟩
theorem cells_arg:Tryz.prog.cellsOf 36=8:=by kernel_rfl
theorem cells_str:Tryz.prog.cellsOf 9=1:=by kernel_rfl
theorem cells_bool:Tryz.prog.cellsOf 4=1:=by kernel_rfl
theorem cells_stmt:Tryz.prog.cellsOf 24=4:=by kernel_rfl
instance:Inhabited Ar:=⟨ar0⟩
theorem list8 {α:Type} {l:List α} (h:l.length=8):∃ a b c d e f g i,l = [a,b,c,d,e,f,g,i]:=by
 match l,h with
 | [a,b,c,d,e,f,g,i],_=>exact ⟨a,b,c,d,e,f,g,i,rfl⟩
theorem list5 {α:Type} {l:List α} (h:l.length=5):∃ a b c d e,l = [a,b,c,d,e]:=by
 match l,h with
 | [a,b,c,d,e],_=>exact ⟨a,b,c,d,e,rfl⟩
theorem open_args {H:Type} {enc:TypeId × Value->H} {W:World} (fuel:Nat) (v:Value) (x:DataW H × List MemPlace) (h:DataW.trod enc Tryz.prog W 0 (fun _=>true) true fuel 22 [v]=some x):∃ l:List Ar,ArAt W (· < W.heap.size) v l/\∀ a∈l,okA a:=by
 obtain ⟨e0,e1,e2,e3,hse,hone,s0,s1,s2,s3⟩:=fields_expr
 obtain ⟨f0,f1,f2,f3,f4,hs,⟨o0,t0⟩,⟨o1,t1⟩,⟨o2,t2⟩,⟨o3,t3⟩,⟨o4,t4⟩⟩:=fields_arg
 rcases DataW.trod_slice Tryz.underlying22 h with ⟨hcs,_⟩ | ⟨a,len,cap,elems,rest,n,hfu,hcs,hx,hb,hl,hm,hlen,hel,hsp,hns⟩
 ·simp at hcs
  subst hcs
  exact ⟨[],ArAt.nil _ _,fun a ha=>by simp at ha⟩
 ·simp at hcs
  subst hcs
  rw [cells_arg] at hel
  obtain ⟨F,hF⟩:=choose_lt (α:=Ar × Value) (n:=len) (p:=fun i q=>(∀ r,r<8->W.cell? (a.add (i * 8+r))=(arCells q.1 q.2)[r]?)/\SubAt W (· < W.heap.size) q.2 q.1.e.sub/\okA q.1) (fun i hi=>by
   have h1:=hel i hi
   rw [List.getElem?_eq_getElem (by omega)] at h1
   obtain ⟨cs',hc,ht'⟩:=Option.bind_eq_some_iff.1 h1
   obtain ⟨ys,n',hn',hy,hlen',hyl,hf⟩:=DataW.trod_struct hs ht'
   obtain ⟨_,hcl,hat⟩:=World.cells?_some hc
   obtain ⟨c0,c1,c2,c3,c4,c5,c6,c7,rfl⟩:=list8 hcl
   obtain ⟨y0,y1,y2,y3,y4,rfl⟩:=list5 (hyl.trans rfl)
   have r0:=hf 0 f0 rfl
   have r1:=hf 1 f1 rfl
   have r2:=hf 2 f2 rfl
   have r3:=hf 3 f3 rfl
   have r4:=hf 4 f4 rfl
   rw [o0,t0,cells_str] at r0
   rw [o1,t1,cells_str] at r1
   rw [o2,t2,cells_bool] at r2
   rw [o3,t3,cells_bool] at r3
   rw [o4,t4,cells_expr] at r4
   obtain ⟨⟨⟨x0⟩⟩,g0,_,w0⟩:=DataW.trod_string Tryz.underlying9 r0
   obtain ⟨⟨⟨x1⟩⟩,g1,_,w1⟩:=DataW.trod_string Tryz.underlying9 r1
   obtain ⟨b2,g2,_⟩:=DataW.trod_bool Tryz.underlying4 r2
   obtain ⟨b3,g3,_⟩:=DataW.trod_bool Tryz.underlying4 r3
   obtain ⟨zs,m',hm',hz,hzl',hzl,hg⟩:=DataW.trod_struct hse r4
   obtain ⟨z0,z1,z2,z3,rfl⟩:=list4 (hzl.trans rfl)
   obtain ⟨p0,k0⟩:=hone_of hone 0 e0 rfl
   obtain ⟨p1,k1⟩:=hone_of hone 1 e1 rfl
   obtain ⟨p2,k2⟩:=hone_of hone 2 e2 rfl
   obtain ⟨p3,k3⟩:=hone_of hone 3 e3 rfl
   have q0:=hg 0 e0 rfl
   have q1:=hg 1 e1 rfl
   have q2:=hg 2 e2 rfl
   have q3:=hg 3 e3 rfl
   rw [p0,k0,s0] at q0
   rw [p1,k1,s1] at q1
   rw [p2,k2,s2] at q2
   rw [p3,k3,s3] at q3
   simp only [List.drop_succ_cons,List.drop_zero,List.take_succ_cons,List.take_zero] at g0 g1 g2 g3 q0 q1 q2 q3
   obtain ⟨⟨⟨u0⟩⟩,j0,_,v0⟩:=DataW.trod_string Tryz.underlying9 q0
   obtain ⟨n1,j1,_,wf1⟩:=DataW.trod_int Tryz.underlying31 q1
   obtain ⟨⟨⟨u2⟩⟩,j2,_,v2⟩:=DataW.trod_string Tryz.underlying9 q2
   have b1:=bounds_u16 wf1
   obtain ⟨sub,hsub⟩:=open_sub m' c7 _ q3
   simp at g0 g1 g2 g3 j0 j1 j2
   subst g0 g1 g2 g3 j0 j1 j2
   refine ⟨(⟨x0,x1,b2,b3,.mk u0 n1.toNat u2 sub⟩,c7),fun r hr=>?_,hsub,?_,?_,?_,?_,?_⟩
   ·have hr':=hat r hr
    rw [Go.Deep.add_add] at hr'
    rw [hr']
    match r,hr with
    | 0,_=>rfl
    | 1,_=>rfl
    | 2,_=>rfl
    | 3,_=>rfl
    | 4,_=>rfl
    | 5,_=>show some (Value.int .u16 n1)=some (Value.int .u16 (n1.toNat:Int));rw [Int.toNat_of_nonneg b1.1]
    | 6,_=>rfl
    | 7,_=>rfl
   ·simpa [ByteArray.size] using w0
   ·simpa [ByteArray.size] using w1
   ·show n1.toNat<=65535
    omega
   ·show u0.length<=maxLen
    simpa [ByteArray.size] using v0
   ·show u2.length<=maxLen
    simpa [ByteArray.size] using v2)
  refine ⟨(List.range len).map fun i=>(F i).1,?_,?_⟩
  ·have hll:((List.range len).map fun i=>(F i).1).length=len:=by simp
   have hg:∀ i (hi:i<((List.range len).map fun i=>(F i).1).length),((List.range len).map fun i=>(F i).1)[i]=(F i).1:=fun i hi=>by simp
   refine ⟨some a,cap,fun i=>(F i).2,by rw [hll],by omega,by omega,fun h0=>?_,fun i hi=>?_⟩
   ·obtain ⟨g,o,s⟩:=a
    obtain ⟨q0,_⟩:=hF 0 (by omega)
    have q0:=q0 0 (by omega)
    have hspot:s=none:=by simpa [Addr.add] using World.cell?_spot (q0.trans rfl)
    subst hspot
    have q0':=q0.trans rfl
    rw [addr_add] at q0'
    refine ⟨g,o,rfl,World.block_lt_of_cell? _ _ q0',fun i hi j u hu=>?_⟩
    obtain ⟨q1,_⟩:=hF i (by omega)
    rw [hg i hi] at hu
    have hj:j<8:=(List.getElem?_eq_some_iff.1 hu).1
    have:=q1 j hj
    rw [addr_add,← Nat.add_assoc] at this
    rw [this]
    exact hu
   ·obtain ⟨_,q2,_⟩:=hF i (by omega)
    rw [hg i hi]
    exact q2
  ·intro x hx
   obtain ⟨i,hi,rfl⟩:=List.mem_map.1 hx
   exact (hF i (List.mem_range.1 hi)).2.2
theorem fields_stmt:∃ f0 f1 f2 f3:Field,Tryz.prog.underlying 24=some (.struct #[f0,f1,f2,f3])/\oneCellFields Tryz.prog #[f0,f1,f2,f3]=true/\f0.type=9/\f1.type=4/\f2.type=9/\f3.type=22:=⟨_,_,_,_,Tryz.underlying24,by kernel_rfl,rfl,rfl,rfl,rfl⟩
set_option maxRecDepth 100000 in
theorem open_stmt {H:Type} {enc:TypeId × Value->H} {W:World} {base:Nat} {v:Value} {d:DataW H} {ps:List MemPlace} (hv:Value.okWide Tryz.prog W .any base 24 v)
  (h:DataW.Trod enc Tryz.prog W 0 (fun _=>true) true 24 v d ps):∃ (s:St) (vs:Value),v=stV s vs/\ArAt W (· < W.heap.size) vs s.args/\okS s:=by
 obtain ⟨f0,f1,f2,f3,hs,hone,t0,t1,t2,t3⟩:=fields_stmt
 obtain ⟨v0,v1,v2,v3,y0,y1,y2,y3,n,rfl,_,_,r0,r1,r2,r3⟩:=Joins.open_agg4 hs hone cells_stmt hv h
 rw [t0] at r0
 rw [t1] at r1
 rw [t2] at r2
 rw [t3] at r3
 obtain ⟨⟨⟨s0⟩⟩,g0,_,w0⟩:=DataW.trod_string Tryz.underlying9 r0
 obtain ⟨b1,g1,_⟩:=DataW.trod_bool Tryz.underlying4 r1
 obtain ⟨⟨⟨s2⟩⟩,g2,_,w2⟩:=DataW.trod_string Tryz.underlying9 r2
 obtain ⟨l,hl,hok⟩:=open_args n v3 _ r3
 simp at g0 g1 g2
 subst g0 g1 g2
 exact ⟨⟨s0,b1,s2,l⟩,v3,rfl,hl,by simpa [ByteArray.size] using w0,by simpa [ByteArray.size] using w2,hok⟩
open Go.RowKit
theorem gw12 {W:World} (h0:laidMet Tryz.prog Rows.rewriteStmtsRow.laid W) (hsh:W.ShapedOpen Tryz.prog):GWL W:=by
 have e2:(Rows.laid_strings_asciiSpace:DataW Unit)=Lib.tabData .u8 Lib.asciiSpaceTab:=by kernel_rfl
 have h2:=h0.tail.tail
 rw [e2] at h2
 exact ⟨Lib.tabIs_of_head (g:=1) (t:=204) (e:=5) (n:=256) (by kernel_rfl) (by kernel_rfl) (by kernel_rfl) (by kernel_rfl) (by kernel_rfl) (by kernel_rfl) h2,
  cell_of_shapedOpen_int (t:=3) (zero:=#[.int .i64 0]) hsh (of_decide_eq_true (by kernel_rfl)) (by kernel_rfl) rfl (by kernel_rfl) (by kernel_rfl) Tryz.underlying3⟩
def layIn12 (cs:List Value):Obj->Obj
 | .cells _ t frozen=>.cells cs.toArray t frozen
 | o=>o
/-- The settled world, the tables holding what their texts lay. -/
noncomputable def laidWorld12 (os:Os):World:=
 let N:=(World.settled Tryz.prog os).heap.size
 let w0:=World.holding Tryz.prog os ⟨#[.cells ([9,13,1,32,133,101,160,5760,5600,8192,8202,1,8232,8233,1,8239,8287,48,12288,12288,1].map fun (n:Nat)=>Value.int .u16 (n:Int)).toArray 271,.cells #[.slice (some ⟨N,0,none⟩) 7 7,.slice none 0 0,.int .i64 2] 269],#[],[]⟩
 { w0 with heap:=(((w0.heap.modify 3 (layIn12 (Go.Pinned.utf8FirstZ.map fun (n:Nat)=>Value.int .u8 (n:Int)))).modify 4 (layIn12 ([128,191,160,191,128,159,144,191,128,143,0,0,0,0,0,0,0,0,0,0,0,0,0,0,0,0,0,0,0,0,0,0].map fun (n:Nat)=>Value.int .u8 (n:Int)))).modify 1 (layIn12 ([0,0,0,0,0,0,0,0,0,1,1,1,1,1,0,0,0,0,0,0,0,0,0,0,0,0,0,0,0,0,0,0,1,0,0,0,0,0,0,0,0,0,0,0,0,0,0,0,0,0,0,0,0,0,0,0,0,0,0,0,0,0,0,0,0,0,0,0,0,0,0,0,0,0,0,0,0,0,0,0,0,0,0,0,0,0,0,0,0,0,0,0,0,0,0,0,0,0,0,0,0,0,0,0,0,0,0,0,0,0,0,0,0,0,0,0,0,0,0,0,0,0,0,0,0,0,0,0,0,0,0,0,0,0,0,0,0,0,0,0,0,0,0,0,0,0,0,0,0,0,0,0,0,0,0,0,0,0,0,0,0,0,0,0,0,0,0,0,0,0,0,0,0,0,0,0,0,0,0,0,0,0,0,0,0,0,0,0,0,0,0,0,0,0,0,0,0,0,0,0,0,0,0,0,0,0,0,0,0,0,0,0,0,0,0,0,0,0,0,0,0,0,0,0,0,0,0,0,0,0,0,0,0,0,0,0,0,0,0,0,0,0,0,0,0,0,0,0,0,0,0,0,0,0,0,0].map fun (n:Nat)=>Value.int .u8 (n:Int)))).modify 2 (layIn12 [.pointer (some ⟨N+1,0,none⟩)]) }
theorem plainH {W:World} {l:List (String × DataW Unit)} (hl:(l.all fun x=>x.2.handleName?.isNone)=true) (h:laidMetH Tryz.prog l W):laidMet Tryz.prog l W:=by
 rwa [Go.MakeChecks.laidMetH_plain _ _ _ hl] at h
end Go.Proofs.YtijgppokofganaaGreatDoor
/- RewriteStmts: for every input the law returns true, and its arguments read as before; the card ties the tables of the library that its row lists. No further condition. -/
namespace Go.Proofs.YtijgppokofganaaGreatDoor.rewriteStmts
open Go.ChangeShapes Go.WideShapes Go.ChangeAt Go.RowKit
open Go.ChangeMaps (open_string shut_string)
theorem own:ownKnob Tryz.prog.godebug=none:=by kernel_rfl
set_option maxRecDepth 100000 in
theorem contract (H:Type) (enc:TypeId × Value->H) (W:World) (base:Nat) (args:Array Value) (ds gs:List (DataW H)) (before:List MemPlace)
  (hval:∀ (j:Nat) t v,Tryz.f3.params[j]? = some t->args[j]? = some v->Value.okWide Tryz.prog W .any base t v)
  (hW:DataW.Whole enc Tryz.prog Tryz.f3.params.toList Rows.rewriteStmtsSpec.vars false W args.toList ds gs before) (hgw:GWL W) :
  Calls Tryz.prog 3 args W fun e W'=>∃ v,e=.returned v/\Rows.rewriteStmtsSpec.post enc Tryz.prog Tryz.f3 false true false false W args v W':=by
 have hW':=hW
 obtain ⟨p,q,hA0,hV,rfl,hfz,hnd⟩:=hW
 have hA:DataW.TrodAll enc Tryz.prog W 0 (fun _=>true) true Tryz.f3.params.toList args.toList ds p:=hA0
 rw [Tryz.params3] at hA hval
 obtain ⟨v0,vs0,d0,ds0,p0,q0,hargs,rfl,rfl,h0,r0⟩:=trodAll_cons hA
 obtain ⟨rfl,rfl,rfl⟩:=trodAll_nil r0
 obtain rfl:args=#[v0]:=by cases args;simp_all
 obtain ⟨rfl,rfl⟩:=trodVars_none hV
 have s0:∀ W',Below W.heap.size W W'->DataW.Trod enc Tryz.prog W' 0 (fun b=>decide (b<W.heap.size)) true 24 v0 d0 p0:=fun W' bel=>stays (by kernel_rfl) (of_decide_eq_true (by kernel_rfl)) h0 (fun p hp=>hW'.lt p (by simp [hp])) bel
 obtain ⟨l0,u0,rfl,hr0,ho0⟩:=open_stmt (hval 0 24 v0 rfl rfl) h0
 clear hA0
 refine (rewriteStmts_walk l0 u0 W hgw hr0 ho0 ).mono fun e W' ⟨he,bel⟩=>?_
 subst he
 exact ⟨_,rfl,_,_,_,[],_,[],hW',trodAll_mk1 (shut_bool Tryz.underlying4 _),(trodAll_cons_mk (s0 W' bel) trodAll_mk0),rfl,bel.frame _,fun h=>by cases h⟩
theorem laid_met (os:Os):laidMet Tryz.prog Rows.rewriteStmtsRow.laid ((laidWorld12 os).forCall (fun _ _=>0) ⟨#[],#[.agg #[.string ByteArray.empty,.bool false,.string ByteArray.empty,.slice none 0 0]],[]⟩).memory:=
 laidMet_of_run3 10 (by kernel_rfl) (by kernel_rfl) (by kernel_rfl)
theorem reads (os:Os) {H:Type} (enc:TypeId × Value->H):∃ places,DataW.whole enc Tryz.prog ((laidWorld12 os).forCall (fun _ _=>0) ⟨#[],#[.agg #[.string ByteArray.empty,.bool false,.string ByteArray.empty,.slice none 0 0]],[]⟩).memory Tryz.f3.params.toList Rows.rewriteStmtsSpec.vars false (#[.agg #[.string ByteArray.empty,.bool false,.string ByteArray.empty,.slice none 0 0]]:Array Value).toList 8=some ([.agg [.lit (.string []),.lit (.bool false),.lit (.string []),.nil]],[],places):=
 ⟨[],by kernel_rfl⟩
set_option maxRecDepth 100000 in
theorem lifted (os:Os) (started:os.Started) (H:Type) (enc:TypeId × Value->H) (F:Stop.Interp) :
  ReturnsInHanded {} Tryz.checked os 3 .any ((OpenSpec.ofChange Rows.rewriteStmtsSpec).preRow enc Tryz.prog Tryz.f3 Rows.rewriteStmtsRow.domain false Rows.rewriteStmtsRow.laid) (((OpenSpec.ofChange Rows.rewriteStmtsSpec).at F).post enc Tryz.prog Tryz.f3 false true false false):=by
 obtain ⟨places,hx⟩:=reads os enc
 refine returnsInHanded_of_row (C:=Tryz.checked) (s:=OpenSpec.ofChange Rows.rewriteStmtsSpec) own started (by kernel_rfl) Tryz.func3
  (witness_row_atRef (enc:=enc) (C:=Tryz.checked) false (laidWorld12 os) #[.agg #[.string ByteArray.empty,.bool false,.string ByteArray.empty,.slice none 0 0]] rfl (by kernel_rfl) (by kernel_rfl) (by kernel_rfl)
   (OpenSpec.preRow_of_cond 8 hx (by kernel_rfl) (fun k hk=>by cases hk) (by kernel_rfl) (laid_met os))) ?_
 intro W base args ds gs before hval hW _ _ _ hlm hsh _
 exact contract H enc W base args ds gs before hval hW (gw12 (plainH (by kernel_rfl) hlm) hsh)
theorem said:Rows.RewriteStmtsSaid:=
 OpenClaim.holds_of_cond 3 Tryz.f3 rfl rfl rfl rfl rfl rfl rfl ⟨rfl,rfl,rfl,rfl,rfl⟩ rfl rfl rfl rfl rfl (by kernel_rfl) Tryz.func3 (by kernel_rfl)
  (of_decide_eq_true (by kernel_rfl)) (by unfold Func.isWrapper;first | (rw [if_pos (by decide +kernel)];kernel_rfl) | (rw [if_neg (by decide +kernel)];exact ⟨rfl,rfl⟩))
  (fun os started H enc _ F=>by rw [OpenClaim.pre_eq_preRow];exact lifted os started H enc F)
theorem plain (f:FuncId) (fn:Func) (hf:Tryz.pinned.checked.prog.funcNamed Tryz.f3.name=some f) (hfn:Tryz.pinned.checked.prog.funcs[f]? = some fn) :
  false=Tryz.pinned.checked.prog.looks []/\∀ (j:Nat) t,fn.params[j]? = some t->Tryz.pinned.checked.prog.wantsStandIn t=false:=by
 obtain rfl:f=3:=Option.some.inj ((show Tryz.prog.funcNamed Tryz.f3.name=some 3 by kernel_rfl).symm.trans hf) |>.symm
 obtain rfl:fn=Tryz.f3:=(Option.some.inj (Tryz.func3.symm.trans hfn)).symm
 refine ⟨by kernel_rfl,fun j t ht=>?_⟩
 rw [Tryz.params3] at ht
 obtain rfl:t=24:=by simpa using Array.mem_of_getElem? ht
 exact (show Tryz.prog.wantsStandIn 24=false by kernel_rfl)
theorem card:Rows.RewriteStmtsCardSaid:=
 Claim7.holds_tied_plain_at .later [] _ _ _ _ said (fun _ h=>by cases h) (by kernel_rfl) (fun _ h=>by cases h) rewriteStmts_row_tie rfl ⟨rfl,rfl⟩ (by kernel_rfl) rfl plain (by kernel_rfl)
#print axioms card
end Go.Proofs.YtijgppokofganaaGreatDoor.rewriteStmts
