/- Xg. -/
import Derived.Test.YtbdnbfacalfciaaGreatDoorXe
import Derived.Test.YtbdnbfacalfciaaGreatDoorXc
import Derived.Test.YtbdnbfacalfciaaGreatDoorXb
import Derived.Test.YtbdnbfacalfciaaGreatDoorXf
import Derived.Test.YtbdnbfacalfciaaGreatDoorKn
import Derived.Deep.RegionWith
import Derived.Deep.QuietTactic
import Derived.BigQuiet
import Derived.BigRegion
import Derived.Lib.QuietBelow
import Derived.Test.YtbdnbfacalfciaaGreatDoorXd
import Derived.StillTail
import Derived.StillTactics
import Derived.KernelRfl
namespace Go.Proofs.YtbdnbfacalfciaaGreatDoor
set_option maxRecDepth 100000
set_option maxHeartbeats 4000000
open Go.RowKit
structure EgA where
 g:Nat
 tb:Nat
 mb:Nat
 im:Nat
 D:Value
 lv:Value
 uv:Value
def ownB (v:Value):List Nat:=v.ownBlock.toList
def EgA.own (E:EgA):List Nat:=E.g :: E.tb :: E.mb :: E.im :: (ownB E.lv++ownB E.uv)
theorem mem_own {E:EgA} {k:Nat}:k∈E.own ↔ k=E.g∨k=E.tb∨k=E.mb∨k=E.im∨E.lv.ownBlock=some k∨E.uv.ownBlock=some k:=by
 unfold EgA.own ownB
 simp [Option.mem_toList]
def fkCells:List (Bool × Nat)->List Value
 | []=>[]
 | x :: r=>.bool x.1 :: .int .i64 x.2 :: fkCells r
theorem fk_len (l:List (Bool × Nat)):(fkCells l).length=2 * l.length:=by
 induction l with
 | nil=>rfl
 | cons x r ih=>simp [fkCells,ih];omega
theorem fk_get (l:List (Bool × Nat)):∀ j (hj:j<l.length),(fkCells l)[2 * j]? = some (.bool l[j].1)/\(fkCells l)[2 * j+1]? = some (.int .i64 l[j].2):=by
 induction l with
 | nil=>intro j hj;simp at hj
 | cons x r ih=>
  intro j hj
  cases j with
  | zero=>exact ⟨rfl,rfl⟩
  | succ j=>exact ih j (by simpa using hj)
theorem fk_set (l:List (Bool × Nat)):∀ j x,((fkCells l).set (2 * j) (.bool x.1)).set (2 * j+1) (.int .i64 x.2)=fkCells (l.set j x):=by
 induction l with
 | nil=>intro j x;simp [fkCells]
 | cons y r ih=>
  intro j x
  cases j with
  | zero=>simp [fkCells]
  | succ j=>
   have:=ih j x
   rw [show 2 * (j+1)=2 * j+1+1 by omega]
   simp only [fkCells,List.set_cons_succ]
   rw [this]
def egTail (E:EgA) (sec:Bool) (eg:Eg):List Value:=[.int .i64 (eg.op.length:Nat),E.D,.bool sec,.bool eg.done,.bool eg.has,.pointer (some ⟨E.tb,0,none⟩),.pointer (some ⟨E.im,0,none⟩),.int .u16 eg.entry,.slice none 0 0,E.lv,E.uv]
def egCells (E:EgA) (raw:List (Bool × Nat)) (sec:Bool) (eg:Eg):List Value:=.int .i64 eg.pl :: (fkCells raw++egTail E sec eg)
def BytS (w:World) (S:Nat->Prop) (v:Value) (l:List UInt8):Prop:=∃ (A:Option Addr) (c:Nat),v=.slice A l.length c/\l.length<=c /\
 (0<l.length->∃ g o,A=some ⟨g,o,none⟩/\S g/\∀ j u,(l.map bv)[j]? = some u->w.cell? ⟨g,o+j,none⟩=some u)
theorem BytS.keep {w w':World} {S S':Nat->Prop} {v:Value} {l:List UInt8} (h:BytS w S v l) (hk:∀ p:Addr,S p.block->w'.cell? p=w.cell? p) (hS:∀ g,S g->S' g):BytS w' S' v l:=by
 obtain ⟨A,c,h1,h2,h3⟩:=h
 refine ⟨A,c,h1,h2,fun h0=>?_⟩
 obtain ⟨g,o,g1,g2,g3⟩:=h3 h0
 exact ⟨g,o,g1,hS g g2,fun j u hu=>(hk _ g2).trans (g3 j u hu)⟩
def liCells (l:Lin):Value->List Value
 | .agg ⟨[b,s]⟩=>[.int .i64 l.n,.int .u16 l.pl,.int .i64 l.kind,b,.int .u16 l.v,.string ⟨l.e.op.toArray⟩,.int .u16 l.e.n,.string ⟨l.e.name.toArray⟩,s]
 | _=>List.replicate 9 (.int .i64 0)
theorem liCells_len (l:Lin) (v:Value):(liCells l v).length=9:=by
 unfold liCells
 split <;> rfl
def LiOwn (w:World) (g:Nat) (S:Nat->Prop) (v:Value) (ls:List Lin):Prop:=∃ vs:List Value,vs.length=ls.length/\w.ownsRow 0 140 9 v ls.length (rowV liCells ls vs) /\
 ∀ i (hi:i<ls.length),∃ b s,vs[i]? = some (.agg #[b,s])/\BytS w (fun k=>S k/\g<k) b ls[i].b/\SubAt w S s ls[i].e.sub
def usV (u:Nat):Value:=.int .i64 u
theorem row_keep {w w':World} {base size n:Nat} {e:TypeId} {v:Value} {xs:List Value} (h:w.ownsRow base e size v n xs) (hb:∀ k,v.ownBlock=some k->w'.heap[k]? = w.heap[k]?):w'.ownsRow base e size v n xs:=
 ⟨h.1,h.2.imp id fun ⟨g,cap,cur,h1,h2,h3,h4⟩=>⟨g,cap,cur,h1,h2,(hb g (by rw [h1];rfl)).trans h3,h4⟩⟩
theorem LiOwn.keep {w w':World} {g0:Nat} {S S':Nat->Prop} {v:Value} {ls:List Lin} (h:LiOwn w g0 S v ls) (hb:∀ k,v.ownBlock=some k->w'.heap[k]? = w.heap[k]?) (hk:∀ p:Addr,S p.block->w'.cell? p=w.cell? p) (hS:∀ g,S g->S' g):LiOwn w' g0 S' v ls:=by
 obtain ⟨vs,h1,h2,h3⟩:=h
 refine ⟨vs,h1,row_keep h2 hb,fun i hi=>?_⟩
 obtain ⟨b,s,g1,g2,g3⟩:=h3 i hi
 exact ⟨b,s,g1,g2.keep (fun p hp=>hk p hp.1) (fun k hk2=>⟨hS k hk2.1,hk2.2⟩),g3.keep hk hS⟩
structure EgAt (w:World) (E:EgA) (sec:Bool) (eg:Eg):Prop where
 cells:∃ raw,raw.length=8/\raw.take eg.op.length=eg.op/\w.heap[E.g]? = some (.cells (egCells E raw sec eg).toArray 198 (0,0))
 few:eg.op.length<=8
 tab:TabAt w E.tb E.mb eg.syms
 small:eg.syms.length<=2048
 img:ImAt w E.im (imgL eg.lines)
 rows:LiOwn w E.g (fun k=>k<w.heap.size/\k∉E.own) E.lv eg.lines
 nums:w.ownsRow 0 3 1 E.uv eg.used.length (eg.used.map usV)
 place:eg.pl<=65536
 ent:eg.entry<=65535
theorem eg_get (a:Value) (fk r:List Value) (h:fk.length=16) (i:Nat):(a :: (fk++r))[17+i]? = r[i]?:=by
 rw [show 17+i=(16+i)+1 by omega,List.getElem?_cons_succ,List.getElem?_append_right (by omega)]
 congr 1
 omega
theorem EgAt.cell {w:World} {E:EgA} {sec:Bool} {eg:Eg} (h:EgAt w E sec eg):w.cell? ⟨E.g,0,none⟩=some (.int .i64 eg.pl)/\w.cell? ⟨E.g,17,none⟩=some (.int .i64 (eg.op.length:Nat)) /\
  w.cell? ⟨E.g,18,none⟩=some E.D/\w.cell? ⟨E.g,19,none⟩=some (.bool sec)/\w.cell? ⟨E.g,20,none⟩=some (.bool eg.done)/\w.cell? ⟨E.g,21,none⟩=some (.bool eg.has) /\
  w.cell? ⟨E.g,22,none⟩=some (.pointer (some ⟨E.tb,0,none⟩))/\w.cell? ⟨E.g,23,none⟩=some (.pointer (some ⟨E.im,0,none⟩))/\w.cell? ⟨E.g,24,none⟩=some (.int .u16 eg.entry) /\
  w.cell? ⟨E.g,25,none⟩=some (.slice none 0 0)/\w.cell? ⟨E.g,26,none⟩=some E.lv/\w.cell? ⟨E.g,27,none⟩=some E.uv:=by
 obtain ⟨raw,h1,_,h3⟩:=h.cells
 have hl:(fkCells raw).length=16:=by rw [fk_len,h1]
 have G:=fun (i:Nat)=>(coh (i:=i) h3).trans (List.getElem?_toArray)
 have G2:=fun (i:Nat)=>(G (17+i)).trans (eg_get _ _ _ hl i)
 exact ⟨(G 0).trans rfl,(G2 0).trans rfl,(G2 1).trans rfl,(G2 2).trans rfl,(G2 3).trans rfl,(G2 4).trans rfl,(G2 5).trans rfl,(G2 6).trans rfl,(G2 7).trans rfl,(G2 8).trans rfl,(G2 9).trans rfl,(G2 10).trans rfl⟩
theorem EgAt.open {w:World} {E:EgA} {sec:Bool} {eg:Eg} (h:EgAt w E sec eg) (j:Nat) (hj:j<eg.op.length):w.cell? ⟨E.g,1+2 * j,none⟩=some (.bool eg.op[j].1)/\w.cell? ⟨E.g,1+2 * j+1,none⟩=some (.int .i64 eg.op[j].2):=by
 obtain ⟨raw,h1,h2,h3⟩:=h.cells
 have hf:=h.few
 have hg:=fk_get raw j (by omega)
 have e:raw[j]'(by omega)=eg.op[j]:=by
  have h4:raw[j]? = eg.op[j]?:=by
   rw [← h2,List.getElem?_take_of_lt hj]
  rw [List.getElem?_eq_getElem (by omega),List.getElem?_eq_getElem hj] at h4
  exact Option.some.inj h4
 rw [e] at hg
 have hl:(fkCells raw).length=16:=by rw [fk_len,h1]
 have G:=fun (i:Nat)=>(coh (i:=i) h3).trans (List.getElem?_toArray)
 refine ⟨(G _).trans ?_,(G _).trans ?_⟩
 ·rw [egCells,show 1+2 * j=2 * j+1 by omega,List.getElem?_cons_succ,List.getElem?_append_left (by omega)]
  exact hg.1
 ·rw [egCells,show 1+2 * j+1=(2 * j+1)+1 by omega,List.getElem?_cons_succ,List.getElem?_append_left (by omega)]
  exact hg.2
theorem EgAt.free {w:World} {E:EgA} {sec:Bool} {eg:Eg} (h:EgAt w E sec eg) (i:Nat):w.frozen? ⟨E.g,i,none⟩=false:=by
 obtain ⟨raw,_,_,h3⟩:=h.cells
 rw [foh h3]
 simp
theorem EgAt.lt {w:World} {E:EgA} {sec:Bool} {eg:Eg} (h:EgAt w E sec eg):E.g<w.heap.size:=by
 obtain ⟨raw,_,_,h3⟩:=h.cells
 exact loh h3
theorem EgAt.owned {w:World} {E:EgA} {sec:Bool} {eg:Eg} (h:EgAt w E sec eg):∀ k,k∈E.own->k<w.heap.size:=by
 intro k hk
 rcases mem_own.1 hk with rfl | rfl | rfl | rfl | hk | hk
 ·exact h.lt
 ·exact h.tab.lt.1
 ·exact h.tab.lt.2
 ·exact h.img.lt
 ·obtain ⟨vs,_,h2,_⟩:=h.rows
  exact (h2.lt k hk).2
 ·exact (h.nums.lt k hk).2
theorem EgAt.apart {w:World} {E:EgA} {sec:Bool} {eg:Eg} (h:EgAt w E sec eg):E.g≠E.tb/\E.g≠E.mb/\E.g≠E.im/\E.tb≠E.mb/\E.tb≠E.im/\E.mb≠E.im /\
  (∀ k,E.lv.ownBlock=some k->k≠E.g/\k≠E.tb/\k≠E.mb/\k≠E.im/\E.uv.ownBlock≠some k)/\∀ k,E.uv.ownBlock=some k->k≠E.g/\k≠E.tb/\k≠E.mb/\k≠E.im:=by
 obtain ⟨raw,_,_,c1⟩:=h.cells
 obtain ⟨c2,D,⟨es,clock,c3,_⟩,_⟩:=h.tab
 obtain ⟨cur,c4,_⟩:=h.img
 obtain ⟨vs,_,hl,_⟩:=h.rows
 have hu:=h.nums
 have hlr:∀ k,E.lv.ownBlock=some k->∃ cs,w.heap[k]? = some (.cells cs 140 (0,0)):=by
  intro k hk
  rcases hl.2 with ⟨h1,_⟩ | ⟨g,cap,cur,h1,_,h3,_⟩
  ·rw [h1] at hk;cases hk
  ·rw [h1] at hk;cases hk;exact ⟨_,h3⟩
 have hur:∀ k,E.uv.ownBlock=some k->∃ cs,w.heap[k]? = some (.cells cs 3 (0,0)):=by
  intro k hk
  rcases hu.2 with ⟨h1,_⟩ | ⟨g,cap,cur,h1,_,h3,_⟩
  ·rw [h1] at hk;cases hk
  ·rw [h1] at hk;cases hk;exact ⟨_,h3⟩
 have D2:∀ {a b:Nat} {o1 o2:Obj},w.heap[a]? = some o1->w.heap[b]? = some o2->o1≠o2->a≠b:=by
  intro a b o1 o2 ha hb hne hab
  subst hab
  rw [ha] at hb
  exact hne (Option.some.inj hb)
 refine ⟨D2 c1 c2 (by intro e;injection e with _ e _;revert e;decide),D2 c1 c3 (by intro e;injection e),D2 c1 c4 (by intro e;injection e with _ e _;revert e;decide),D2 c2 c3 (by intro e;injection e),D2 c2 c4 (by intro e;injection e with _ e _;revert e;decide),D2 c3 c4 (by intro e;injection e),fun k hk=>?_,fun k hk=>?_⟩
 ·obtain ⟨cs,ck⟩:=hlr k hk
  refine ⟨D2 ck c1 (by intro e;injection e with _ e _;revert e;decide),D2 ck c2 (by intro e;injection e with _ e _;revert e;decide),D2 ck c3 (by intro e;injection e),D2 ck c4 (by intro e;injection e with _ e _;revert e;decide),fun hk2=>?_⟩
  obtain ⟨cs2,ck2⟩:=hur k hk2
  exact D2 ck ck2 (by intro e;injection e with _ e _;revert e;decide) rfl
 ·obtain ⟨cs,ck⟩:=hur k hk
  exact ⟨D2 ck c1 (by intro e;injection e with _ e _;revert e;decide),D2 ck c2 (by intro e;injection e with _ e _;revert e;decide),D2 ck c3 (by intro e;injection e),D2 ck c4 (by intro e;injection e with _ e _;revert e;decide)⟩
theorem EgAt.bel {w w':World} {E:EgA} {sec:Bool} {eg:Eg} (h:EgAt w E sec eg) (hb:Below w.heap.size w w'):EgAt w' E sec eg:=by
 have ho:=h.owned
 have hk:∀ k,k∈E.own->w'.heap[k]? = w.heap[k]?:=fun k hk=>hb.block k (ho k hk)
 obtain ⟨raw,h1,h2,h3⟩:=h.cells
 refine ⟨⟨raw,h1,h2,(hk _ (mem_own.2 (.inl rfl))).trans h3⟩,h.few,h.tab.keep (hk _ (mem_own.2 (by simp))) (hk _ (mem_own.2 (by simp))),h.small,h.img.keep (hk _ (mem_own.2 (by simp))),?_,row_keep h.nums (fun k hk2=>hk k (mem_own.2 (by simp [hk2]))),h.place,h.ent⟩
 exact h.rows.keep (fun k hk2=>hk k (mem_own.2 (by simp [hk2]))) (fun p hp=>hb.cell hp.1) (fun g hg=>⟨Nat.lt_of_lt_of_le hg.1 hb.size,hg.2⟩)
theorem eg_set (a:Value) (fk r:List Value) (h:fk.length=16) (i:Nat) (u:Value):(a :: (fk++r)).set (17+i) u=a :: (fk++r.set i u):=by
 rw [show 17+i=(16+i)+1 by omega,List.set_cons_succ,List.set_append_right _ _ (by omega)]
 congr 3
 omega
theorem eg_heap {w:World} {g i:Nat} {l:List Value} {t:TypeId} {fr:Nat × Nat} (u:Value) (h:w.heap[g]? = some (.cells l.toArray t fr)):(w.setCell ⟨g,i,none⟩ u).heap[g]? = some (.cells (l.set i u).toArray t fr):=by
 rw [heap_set u h]
 simp
theorem EgAt.regs {w w':World} {E:EgA} {sec:Bool} {eg:Eg} (h:EgAt w E sec eg) (sec':Bool) (eg':Eg) (raw':List (Bool × Nat)) (h1:raw'.length=8) (h2:raw'.take eg'.op.length=eg'.op) (few:eg'.op.length<=8)
  (h3:w'.heap[E.g]? = some (.cells (egCells E raw' sec' eg').toArray 198 (0,0))) (hs:eg'.syms=eg.syms) (hl:eg'.lines=eg.lines) (hu:eg'.used=eg.used) (hp:eg'.pl<=65536) (he:eg'.entry<=65535)
  (hk:∀ k,k<w.heap.size->k≠E.g->w'.heap[k]? = w.heap[k]?) (hz:w.heap.size<=w'.heap.size):EgAt w' E sec' eg':=by
 have ho:=h.owned
 obtain ⟨a1,a2,a3,_,_,_,a4,a5⟩:=h.apart
 have hm:∀ k,k∈E.own->k≠E.g->w'.heap[k]? = w.heap[k]?:=fun k hk1 hk2=>hk k (ho k hk1) hk2
 refine ⟨⟨raw',h1,h2,h3⟩,few,?_,by rw [hs];exact h.small,?_,?_,?_,hp,he⟩
 ·rw [hs];exact h.tab.keep (hm _ (mem_own.2 (by simp)) (Ne.symm a1)) (hm _ (mem_own.2 (by simp)) (Ne.symm a2))
 ·rw [hl];exact h.img.keep (hm _ (mem_own.2 (by simp)) (Ne.symm a3))
 ·rw [hl];exact h.rows.keep (fun k hk2=>hm k (mem_own.2 (by simp [hk2])) (a4 k hk2).1) (fun p hp=>World.cell?_of_block (hk _ hp.1 (fun e=>hp.2 (mem_own.2 (.inl e))))) (fun g hg=>⟨Nat.lt_of_lt_of_le hg.1 hz,hg.2⟩)
 ·rw [hu];exact row_keep h.nums (fun k hk2=>hm k (mem_own.2 (by simp [hk2])) (a5 k hk2).1)
theorem set_block {w:World} {g i:Nat} {u:Value} {k:Nat} (h:k≠g):(w.setCell ⟨g,i,none⟩ u).heap[k]? = w.heap[k]?:=Below.heap_setCell _ _ _ k h
theorem EgAt.put {w:World} {E:EgA} {sec:Bool} {eg:Eg} (h:EgAt w E sec eg) (i:Nat) (u:Value) (sec':Bool) (eg':Eg) (hr:(egTail E sec eg).set i u=egTail E sec' eg') (hpl:eg'.pl=eg.pl)
  (hop:eg'.op.length<=eg.op.length/\eg'.op=eg.op.take eg'.op.length) (hs:eg'.syms=eg.syms) (hl:eg'.lines=eg.lines) (hu:eg'.used=eg.used) (he:eg'.entry<=65535):EgAt (w.setCell ⟨E.g,17+i,none⟩ u) E sec' eg':=by
 obtain ⟨raw,h1,h2,h3⟩:=h.cells
 refine h.regs sec' eg' raw h1 ?_ (Nat.le_trans hop.1 h.few) ?_ hs hl hu (by rw [hpl];exact h.place) he (fun k _ hk=>set_block hk) (by simp)
 ·have e:eg'.op=(raw.take eg.op.length).take eg'.op.length:=by rw [h2];exact hop.2
  rw [List.take_take,Nat.min_eq_left hop.1] at e
  exact e.symm
 ·rw [eg_heap u h3]
  unfold egCells
  rw [eg_set _ _ _ (by rw [fk_len,h1]),hr,hpl]
theorem EgAt.move {w:World} {E:EgA} {sec:Bool} {eg:Eg} (h:EgAt w E sec eg) (pl:Nat) (hp:pl<=65536):EgAt (w.setCell ⟨E.g,0,none⟩ (.int .i64 (pl:Int))) E sec { eg with pl:=pl }:=by
 obtain ⟨raw,h1,h2,h3⟩:=h.cells
 refine h.regs sec _ raw h1 h2 h.few ?_ rfl rfl rfl hp h.ent (fun k _ hk=>set_block hk) (by simp)
 rw [eg_heap _ h3]
 rfl
theorem EgAt.push {w:World} {E:EgA} {sec:Bool} {eg:Eg} (h:EgAt w E sec eg) (b:Bool) (n:Nat) (hn:eg.op.length<8) :
  EgAt (((w.setCell ⟨E.g,1+2 * eg.op.length,none⟩ (.bool b)).setCell ⟨E.g,1+2 * eg.op.length+1,none⟩ (.int .i64 (n:Int))).setCell ⟨E.g,17,none⟩ (.int .i64 ((eg.op.length+1:Nat):Int))) E sec { eg with op:=eg.op++[(b,n)] }:=by
 obtain ⟨raw,h1,h2,h3⟩:=h.cells
 refine h.regs sec _ (raw.set eg.op.length (b,n)) (by simp [h1]) ?_ (by simp;omega) ?_ rfl rfl rfl h.place h.ent (fun k _ hk=>((set_block hk).trans (set_block hk)).trans (set_block hk)) (by simp)
 ·simp only [List.length_append,List.length_cons,List.length_nil]
  rw [List.take_add_one,List.take_set_of_le (by omega),h2]
  simp [h1,hn]
 ·rw [eg_heap _ (eg_heap _ (eg_heap _ h3))]
  unfold egCells
  rw [show 1+2 * eg.op.length=2 * eg.op.length+1 by omega,List.set_cons_succ,List.set_cons_succ,List.set_append_left _ _ (by rw [fk_len,h1];omega),List.set_append_left _ _ (by rw [List.length_set,fk_len,h1];omega)]
  have:=fk_set raw eg.op.length (b,n)
  simp only at this
  rw [this]
  rw [show (17:Nat)=17+0 from rfl,eg_set _ _ _ (by rw [fk_len];simp [h1])]
  simp [egTail]
def EgA.like (E E':EgA):Prop:=E'.g=E.g/\E'.tb=E.tb/\E'.mb=E.mb/\E'.im=E.im/\E'.D=E.D
theorem EgA.like_refl (E:EgA):E.like E:=⟨rfl,rfl,rfl,rfl,rfl⟩
theorem EgA.like.trans {E E1 E2:EgA} (h:E.like E1) (h2:E1.like E2):E.like E2:=⟨h2.1.trans h.1,h2.2.1.trans h.2.1,h2.2.2.1.trans h.2.2.1,h2.2.2.2.1.trans h.2.2.2.1,h2.2.2.2.2.trans h.2.2.2.2⟩
def EgR (E:EgA) (sec:Bool) (w:World) (r:Eg × Nat) (e:Ending) (w':World):Prop:=
 e=.returned (.int .i64 (r.2:Nat))/\∃ E',E.like E'/\Turn E.own w E'.own w'/\(r.2=0->EgAt w' E' sec r.1)
theorem EgR.bad {E:EgA} {sec:Bool} {w w':World} {eg:Eg} (k:Nat) (h0:k≠0) (hb:Turn E.own w E.own w'):EgR E sec w (eg,k) (.returned (.int .i64 (k:Nat))) w':=⟨rfl,E,E.like_refl,hb,fun h=>absurd h h0⟩
theorem EgAt.tabs {w w':World} {E:EgA} {sec:Bool} {eg:Eg} (h:EgAt w E sec eg) (t:Tb) (ht:TabAt w' E.tb E.mb t) (hl:t.length<=2048) (hz:w.heap.size<=w'.heap.size) (hk:∀ k,k<w.heap.size->k≠E.mb->w'.heap[k]? = w.heap[k]?):EgAt w' E sec { eg with syms:=t }:=by
 have ho:=h.owned
 obtain ⟨_,a2,_,_,_,a3,a4,a5⟩:=h.apart
 obtain ⟨raw,h1,h2,h3⟩:=h.cells
 have hm:∀ k,k∈E.own->k≠E.mb->w'.heap[k]? = w.heap[k]?:=fun k hk1 hk2=>hk k (ho k hk1) hk2
 refine ⟨⟨raw,h1,h2,(hm _ (mem_own.2 (.inl rfl)) a2).trans h3⟩,h.few,ht,hl,h.img.keep (hm _ (mem_own.2 (by simp)) (Ne.symm a3)),?_,row_keep h.nums (fun k hk2=>hm k (mem_own.2 (by simp [hk2])) (a5 k hk2).2.2.1),h.place,h.ent⟩
 exact h.rows.keep (fun k hk2=>hm k (mem_own.2 (by simp [hk2])) (a4 k hk2).2.2.1) (fun p hp=>World.cell?_of_block (hk _ hp.1 (fun e=>hp.2 (mem_own.2 (by simp [e]))))) (fun g hg=>⟨Nat.lt_of_lt_of_le hg.1 hz,hg.2⟩)
theorem Turn.one {O:List Nat} {w w':World} {b:Nat} (hb:b∈O) (hz:w.heap.size<=w'.heap.size) (hk:∀ k,k<w.heap.size->k≠b->w'.heap[k]? = w.heap[k]?) (hst:Still w w'):Turn O w O w':=
 ⟨hz,fun _ h=>.inl h,fun k hk1 hk2=>hk k hk1 (fun e=>hk2 (e ▸ hb)),hst⟩
theorem getT_le {D:DU} {t:Tb} (h:TabD D t) {m:List UInt8} {n k:Nat} (hg:getT t m=some (n,k)):n<=65535:=by
 obtain ⟨es,_,_,_,hL⟩:=h
 exact (hL _ (getT_mem hg)).2
theorem TabAt.val_le {w:World} {tb mb:Nat} {t:Tb} (h:TabAt w tb mb t) (m:List UInt8):(valT t m).1<=65535:=by
 obtain ⟨_,D,_,hD⟩:=h
 unfold valT
 cases hg:getT t m with
 | none=>simp
 | some x=>exact getT_le hD (n:=x.1) (k:=x.2) hg
theorem symGet_val (tb mb:Nat) (t:Tb) (w:World) (h:TabAt w tb mb t):ValP w 254 #[.pointer (some ⟨tb,0,none⟩)] #[] (valT t):=
 ⟨h.val_le,fun args W=>enters_of Tryz.func254 (by kernel_rfl) rfl args W,fun name W hn hW=>symGet_any tb mb t name hn W (h.keep (hW.block _ h.lt.1) (hW.block _ h.lt.2))⟩
theorem evA_le {w:World} {E:EgA} {sec:Bool} {eg:Eg} (h:EgAt w E sec eg) (e:Ex) (hf:fitE e=true):(evA eg e).1<=65535:=by
 unfold evA evP
 split
 ·exact eval_le _ (by omega) _ h.tab.val_le e hf
 ·simp
theorem evalue_any (E:EgA) (sec:Bool) (eg:Eg) (e:Ex) (v:Value) (w:World) (h:EgAt w E sec eg) (hf:fitE e=true) (hs:SubAt w (· < w.heap.size) v e.sub) :
  Calls Tryz.prog 238 #[.pointer (some ⟨E.g,0,none⟩),exV e v] w fun r w'=>r=.returned (.tuple #[.int .u16 (evA eg e).1,.int .i64 (evA eg e).2])/\Below w.heap.size w w':=by
 obtain ⟨k0,_,_,_,_,_,k22,_⟩:=h.cell
 have HE:Hid (∀ W,Below w.heap.size w W->Calls Tryz.prog 253 #[exV e v,.int .u16 ((eg.pl % 65536:Nat):Int),.func (.func 254) #[.pointer (some ⟨E.tb,0,none⟩)] #[]] W fun r w'=>r=.returned (.tuple #[.int .u16 (evA eg e).1,.int .i64 (evA eg e).2])/\Below W.heap.size W w'):=
  LH (fun W hW=>Eval_val e v (eg.pl % 65536) (by omega) _ _ _ (valT eg.syms) W (symGet_val _ _ _ W (h.tab.keep (hW.block _ h.tab.lt.1) (hW.block _ h.tab.lt.2))) hf (hs.at hW hW.size))
 have HH:=LH (fun W=>here_any eg.pl (by have:=h.place;omega) W)
 obtain ⟨A,c,rfl,_,_⟩:=hs.form
 have hg:=h.lt
 unfold exV at *
 generalize evA eg e=res at *
 generalize eg.pl % 65536=pm at *
 clear hs h
 have B1:=LH ((Below.refl w.heap.size w).alloc (Nat.le_refl _) (.cells #[.string ⟨e.op.toArray⟩,.int .u16 e.n,.string ⟨e.name.toArray⟩,.slice A e.sub.length c] 70))
 have hn:=heap_alloc_new w (.cells #[.string ⟨e.op.toArray⟩,.int .u16 e.n,.string ⟨e.name.toArray⟩,.slice A e.sub.length c] 70)
 go_enter Tryz.func238, Tryz.ntmps238
 go_wp2_with fail
 generalize hw1:w.alloc (.cells #[.string ⟨e.op.toArray⟩,.int .u16 e.n,.string ⟨e.name.toArray⟩,.slice A e.sub.length c] 70)=w1 at *
 clear hw1
 have j0:=cell_regrown ((B1.out.cell (p:=⟨E.g,0,none⟩) hg).trans k0)
 have j22:=cell_regrown ((B1.out.cell (p:=⟨E.g,22,none⟩) hg).trans k22)
 have m0:=cell_regrown (coh (i:=0) hn)
 have m1:=cell_regrown (coh (i:=1) hn)
 have m2:=cell_regrown (coh (i:=2) hn)
 have m3:=cell_regrown (coh (i:=3) hn)
 have cH:∀ d' os,Calls Tryz.prog 235 #[.agg #[.int .i64 eg.pl]] (Go.Sort.grow (redrawn w1 d') os) fun e w''=>e=.returned (.int .u16 (pm:Nat))/\∃ p:Regrown,w''=Go.Sort.grow (redrawn w1 p.d) p.os:=fun d' os=>Calls.regrown_of (HH.out _)
 have cE:∀ d' os,Calls Tryz.prog 253 #[.agg #[.string ⟨e.op.toArray⟩,.int .u16 e.n,.string ⟨e.name.toArray⟩,.slice A e.sub.length c],.int .u16 (pm:Nat),.func (.func 254) #[.pointer (some ⟨E.tb,0,none⟩)] #[]] (Go.Sort.grow (redrawn w1 d') os) fun e w''=>e=.returned (.tuple #[.int .u16 res.1,.int .i64 res.2])/\∃ p:Regrown,w''=Go.Sort.grow (redrawn w1 p.d) p.os:=fun d' os=>Calls.regrown_of (HE.out _ (bthen B1.out (below_regrown w1 d' os)))
 have CH:=LH cH
 have CE:=LH cE
 clear cH cE HH HE hn k0 k22
 refine wp_region_quiet_below (by kernel_rfl) (by kernel_rfl) ?_
 repeat (quiet_step (first | (go_at_call 235;exact CH.out _ _) | (go_at_call 253;exact CE.out _ _)))
 refine wpQuiet_nil ?_
 intro _ hw'
 obtain ⟨⟨dq,osq⟩,hw''⟩:=hw'
 subst hw''
 go_wp2_with fail
 go_ret2
 exact ⟨rfl,bthen B1.out (below_regrown w1 dq osq)⟩
def okSt (s:St):Prop:=s.label.length<=1000/\∀ a∈s.args,a.t.length<=1000/\fitE a.e=true
theorem len_fk:Tryz.prog.arrayLen 194=8:=by unfold Program.arrayLen;rw [Tryz.underlying194]
theorem elem_fk:Tryz.prog.elem 194=193:=by unfold Program.elem;rw [Tryz.underlying194]
theorem slice_fk (g n:Nat) (h:n<=8) (W:World):(Instr.sliceAt 194 (.pointer (some ⟨g,1,none⟩)) none (some (.int .i64 (n:Int))) none).run Tryz.prog W=.ok (.slice (some ⟨g,1,none⟩) n 8) W:=by
 have ht:Tryz.prog.underlying 194=some (.array (Tryz.prog.arrayLen 194) (Tryz.prog.elem 194)):=by rw [len_fk,elem_fk];exact Tryz.underlying194
 rw [run_sliceAt_array_h W 194 ⟨g,1,none⟩ ht .i64 (n:Int) (by omega) (by rw [len_fk];omega),elem_fk,len_fk,Tryz.sizeOf193]
 simp [slicedAt,Addr.add,Result.andThen]
theorem eg_counts (E:EgA) (sec:Bool) (eg:Eg) (w:World) (h:EgAt w E sec eg):Calls Tryz.prog 201 #[.pointer (some ⟨E.g,1,none⟩)] w fun r w'=>r=.returned (.bool (countsA eg))/\Below w.heap.size w w':=by
 obtain ⟨_,k17,_⟩:=h.cell
 have hf:=h.few
 have hsl:=slice_fk E.g eg.op.length hf
 have HC:=LH (fun j hj=>h.open j hj)
 have hg:=h.lt
 have HALLN:Hid (∀ j (hj:j<eg.op.length),eg.op[j].1=false->countsA eg=false):=LH (fun j hj hb=>by unfold countsA;rw [List.all_eq_false];exact ⟨eg.op[j],List.getElem_mem hj,by simp [hb]⟩)
 have HALLY:Hid ((∀ j (hj:j<eg.op.length),eg.op[j].1=true)->countsA eg=true):=LH (fun hb=>by unfold countsA;rw [List.all_eq_true];intro x hx;obtain ⟨j,hj,rfl⟩:=List.getElem_of_mem hx;exact hb j hj)
 generalize countsA eg=res at *
 generalize eg.op=op at *
 clear h
 go_enter Tryz.func201, Tryz.ntmps201
 go_wp2_with fail
 go_quiet (fail)
 go_wp2_with fail
 go_loopw [14] (fun i wr=>∃ k:Nat,k<=op.length/\i=.int .i64 k/\(∀ j (hj:j<op.length),j<k->op[j].1=true)/\Below w.heap.size w wr) (fun i _=>op.length - (intOf i).toNat)
 case atStart=>exact ⟨0,Nat.zero_le _,rfl,fun j _ hj=>absurd hj (by omega),below_dn (Below.refl _ _) _⟩
 case round=>
  obtain ⟨k,hk,rfl,hall,hbw⟩:=hrel
  have HALL:=LH hall
  have HBW:=LH hbw
  clear hall hbw
  by_cases hlt:k<op.length
  ·have i1:(k:Int)<(op.length:Int):=by omega
   obtain ⟨c0,c1⟩:=HC.out k hlt
   have d0:=(HBW.out.cell (p:=⟨E.g,1+2 * k,none⟩) hg).trans c0
   have d1:=(HBW.out.cell (p:=⟨E.g,1+2 * k+1,none⟩) hg).trans c1
   rw [Nat.mul_comm 2 k] at d0 d1
   have HT:Hid (op[k].1=true->∀ j (hj:j<op.length),j<k+1->op[j].1=true):=LH (fun h j hj hjk=>by
    by_cases e:j=k
    ·subst e;exact h
    ·exact HALL.out j hj (by omega))
   have HN:=LH (HALLN.out k hlt)
   generalize op[k]=x at *
   obtain ⟨b,ln⟩:=x
   simp only at d0 d1 HT HN
   clear c0 c1 HALLN HC
   cases b with
   | true=>
    have HT2:=LH (HT.out rfl)
    clear HT HN
    go_wp2_with fail
    go_roundw
    case rel=>exact ⟨k+1,by omega,by go_num,HT2.out,HBW.out.alloc HBW.out.size _⟩
    case measure=>simp [intOf];omega
   | false=>
    have hrl:=HN.out rfl
    subst hrl
    clear HT HN
    go_wp2_with fail
    go_ret
    exact ⟨rfl,HBW.out.alloc HBW.out.size _⟩
  ·obtain rfl:k=op.length:=by omega
   have hrl:=HALLY.out (fun j hj=>HALL.out j hj hj)
   subst hrl
   go_wp2_with fail
   go_ret
   exact ⟨rfl,HBW.out⟩
theorem eg_first (E:EgA) (sec:Bool) (eg:Eg) (s:St) (v:Value) (w:World) (h:EgAt w E sec eg) (hn:0<s.args.length) (hf:okSt s) (hs:ArAt w (· < w.heap.size) v s.args) :
  Calls Tryz.prog 231 #[.pointer (some ⟨E.g,0,none⟩),stV s v] w fun r w'=>r=.returned (.tuple #[.int .u16 (evA eg (arg0 s)).1,.int .i64 (evA eg (arg0 s)).2])/\Below w.heap.size w w':=by
 obtain ⟨A,c,rfl,hc,hm⟩:=hs.form
 obtain ⟨g,q,vk,rfl,hgl,c0,c1,c2,c3,c4,c5,c6,c7,hsub⟩:=hs.get 0 hn
 have he:arg0 s=s.args[0].e:=by unfold arg0;rw [List.getD_eq_getElem?_getD,List.getElem?_eq_getElem hn];rfl
 have HV:=LH (fun W (hW:Below w.heap.size w W)=>evalue_any E sec eg s.args[0].e vk W (h.bel hW) (hf.2 _ (List.getElem_mem hn)).2 (hsub.at hW hW.size))
 have hsf:=hsub.form
 rw [he]
 generalize s.args[0]=x at *
 obtain ⟨SA,sc,rfl,_,_⟩:=hsf
 generalize evA eg x.e=res at *
 unfold exV at HV
 have B1:=LH ((Below.refl w.heap.size w).alloc (Nat.le_refl _) (.cells #[.string ⟨s.label.toArray⟩,.bool s.colon,.string ⟨s.op.toArray⟩,.slice (some ⟨g,q,none⟩) s.args.length c] 63))
 have d4:=(B1.out.cell (p:=⟨g,q+0 * 8+4,none⟩) hgl).trans c4
 have d5:=(B1.out.cell (p:=⟨g,q+0 * 8+5,none⟩) hgl).trans c5
 have d6:=(B1.out.cell (p:=⟨g,q+0 * 8+6,none⟩) hgl).trans c6
 have d7:=(B1.out.cell (p:=⟨g,q+0 * 8+7,none⟩) hgl).trans c7
 simp only [Nat.zero_mul,Nat.add_zero] at d4 d5 d6 d7
 have i1:(0:Int)<(s.args.length:Int):=by omega
 unfold stV
 generalize s.args.length=sl at *
 clear hs h hsub c0 c1 c2 c3 c4 c5 c6 c7 hf he hn hc hm
 go_enter Tryz.func231, Tryz.ntmps231
 go_wp2_with fail
 refine (HV.out _ B1.out).mono ?_
 rintro e w2 ⟨rfl,hb2⟩
 have B2:=LH (bthen B1.out hb2)
 clear hb2
 go_wp2_with fail
 go_ret2
 exact ⟨rfl,B2.out⟩
theorem step_append_to {P:Program} (w:World) {ops:Array Oper} {o:Oper} {a:Act} {K:Act->World->Prop} {Q:Exit->Act->World->Prop} {E:Prop} (hw:Region.wanted o (yielded ops a.tmps)=true) (s x:Operand) (t:TypeId)
  (ho:o.op=.call { callee:=.builtin .append,args:=#[s,x],argTypes:=#[t,t] })
  (base:Nat) (e:TypeId) (z:Value) (size bytes:Nat) (ht:P.underlying t=some (.slice e)) (hinfo:(P.info? e).map (fun i=>(i.zero,i.size,i.bytes))=some (some z,size,bytes))
  (hzs:z.cells.size=size) (hsz:0<size) {v:Value} {n:Nat} {xs:List Value} (hown:w.ownsRow base e size v n xs) (hs:a.eval s=v)
  {B:Nat} {y:Value} {m:Nat} {news:List Value} (hr:Rd w B y m news) (hx:a.eval x=y) (hl:news.length=m * size) (h1:∀ u∈news,u.oneCell'=true)
  (hn:n+m<=1000000000) (hby:bytes<=1000) (hbase:base<=w.heap.size)
  (h:∀ v' w',w'.ownsRow base e size v' (n+m) (xs++news)->w.grownBy w' v.ownBlock->(v'.ownBlock=v.ownBlock∨v'.ownBlock=some w.heap.size)->K (a.put o.dst v') w') :
  if Region.wanted o (yielded ops a.tmps)=true then Oper.wp P o a w K Q else E:=by
 rw [if_pos hw]
 obtain ⟨v',w',hrun,h2,h3,h4⟩:=append_rd (P:=P) w base t o.type e z size bytes ht hinfo hzs hsz v n xs hown B y m news hr hl h1 hn hby hbase
 unfold Oper.wp execOp
 simp only [ho,resolve,invoke,builtin,Sem.run_bind,Sem.run_pure,Result.andThen_ok,List.map_toArray,List.map_cons,List.map_nil,hs,hx,hrun]
 exact h v' w' h2 h3 h4
theorem liCells_eq (l:Lin) (b s:Value):liCells l (.agg #[b,s]) = [.int .i64 l.n,.int .u16 l.pl,.int .i64 l.kind,b,.int .u16 l.v,.string ⟨l.e.op.toArray⟩,.int .u16 l.e.n,.string ⟨l.e.name.toArray⟩,s]:=rfl
def LinAt (w:World) (O:List Nat) (g:Nat) (b s:Value) (l:Lin):Prop:=BytS w (fun k=>(k<w.heap.size/\k∉O)/\g<k) b l.b/\SubAt w (fun k=>k<w.heap.size/\k∉O) s l.e.sub
theorem LiOwn.snoc {w w':World} {g:Nat} {S S':Nat->Prop} {v' b s:Value} {ls:List Lin} {l:Lin} {vs:List Value} (h1:vs.length=ls.length) (h3:∀ i (hi:i<ls.length),∃ b s,vs[i]? = some (.agg #[b,s])/\BytS w (fun k=>S k/\g<k) b ls[i].b/\SubAt w S s ls[i].e.sub)
  (hown:w'.ownsRow 0 140 9 v' (ls.length+1) (rowV liCells ls vs++liCells l (.agg #[b,s]))) (hk:∀ p:Addr,S p.block->w'.cell? p=w.cell? p) (hS:∀ g,S g->S' g) (hb:BytS w' (fun k=>S' k/\g<k) b l.b) (hs:SubAt w' S' s l.e.sub):LiOwn w' g S' v' (ls++[l]):=by
 refine ⟨vs++[.agg #[b,s]],by simp [h1],by rw [rowV_snoc ls l _ vs h1];simpa using hown,fun i hi=>?_⟩
 by_cases hil:i<ls.length
 ·obtain ⟨b1,s1,g1,g2,g3⟩:=h3 i hil
  rw [List.getElem_append_left hil]
  exact ⟨b1,s1,by rw [List.getElem?_append_left (by omega)];exact g1,g2.keep (fun p hp=>hk p hp.1) (fun k hk2=>⟨hS k hk2.1,hk2.2⟩),g3.keep hk hS⟩
 ·obtain rfl:i=ls.length:=by simp at hi;omega
  refine ⟨b,s,by rw [List.getElem?_append_right (by omega)];simp [h1],?_,?_⟩
  ·simpa using hb
  ·simpa using hs
def EgA.withL (E:EgA) (v:Value):EgA:={ E with lv:=v }
def EgA.withU (E:EgA) (v:Value):EgA:={ E with uv:=v }
theorem EgAt.line {w w1 w2 w3:World} {E:EgA} {sec:Bool} {eg:Eg} {l:Lin} {b s lv:Value} {vs:List Value} (h:EgAt w E sec eg)
  (him:ImAt w1 E.im (imgL (eg.lines++[l]))) (hz1:w.heap.size<=w1.heap.size) (hk1:∀ k,k<w.heap.size->k≠E.im->w1.heap[k]? = w.heap[k]?) (hst1:Still w w1) (hb2:Below w1.heap.size w1 w2)
  (hl:LinAt w E.own E.g b s l)
  (hvs:vs.length=eg.lines.length) (hsub:∀ i (hi:i<eg.lines.length),∃ b s,vs[i]? = some (.agg #[b,s])/\BytS w (fun k=>(k<w.heap.size/\k∉E.own)/\E.g<k) b eg.lines[i].b/\SubAt w (fun k=>k<w.heap.size/\k∉E.own) s eg.lines[i].e.sub)
  (hown:w3.ownsRow 0 140 9 lv (eg.lines.length+1) (rowV liCells eg.lines vs++liCells l (.agg #[b,s]))) (hg:w2.grownBy w3 E.lv.ownBlock) (hv:lv.ownBlock=E.lv.ownBlock∨lv.ownBlock=some w2.heap.size) :
  EgAt (w3.setCell ⟨E.g,26,none⟩ lv) (E.withL lv) sec { eg with lines:=eg.lines++[l] }/\Turn E.own w (E.withL lv).own (w3.setCell ⟨E.g,26,none⟩ lv):=by
 have ho:=h.owned
 obtain ⟨a1,a2,a3,a6,a7,a8,a4,a5⟩:=h.apart
 have hz2:=hb2.size
 have hz3:=hg.size
 -- what lies in w and is neither the image, nor the engine's cells, nor the old row, is as it was
 have hold:∀ k,k<w.heap.size->k≠E.im->E.lv.ownBlock≠some k->w3.heap[k]? = w.heap[k]?:=fun k hk1' hk2 hk3=>
  ((hg.block k (by omega) (fun e=>hk3 e.symm)).trans (hb2.block k (by omega))).trans (hk1 k hk1' hk2)
 have hold4:∀ k,k<w.heap.size->k≠E.im->E.lv.ownBlock≠some k->k≠E.g->(w3.setCell ⟨E.g,26,none⟩ lv).heap[k]? = w.heap[k]?:=fun k k1 k2 k3 k4=>(set_block k4).trans (hold k k1 k2 k3)
 have hnew:∀ k,lv.ownBlock=some k->E.lv.ownBlock=some k∨w.heap.size<=k:=by
  intro k hk
  rcases hv with hv | hv
  ·exact .inl (hv ▸ hk)
  ·rw [hv] at hk;cases hk;exact .inr (by omega)
 have hT:Turn E.own w (E.withL lv).own (w3.setCell ⟨E.g,26,none⟩ lv):=by
  refine ⟨by simp;omega,fun k hk=>?_,fun k k1 k2=>?_,(hst1.trans (Still.bel hb2)).trans (show Still w2 (w3.setCell ⟨E.g,26,none⟩ lv) from (Still.grown hg:Still w2 w3))⟩
  ·rcases mem_own.1 hk with rfl | rfl | rfl | rfl | hk | hk
   ·exact .inl (mem_own.2 (.inl rfl))
   ·exact .inl (mem_own.2 (.inr (.inl rfl)))
   ·exact .inl (mem_own.2 (.inr (.inr (.inl rfl))))
   ·exact .inl (mem_own.2 (.inr (.inr (.inr (.inl rfl)))))
   ·rcases hnew k hk with h2 | h2
    ·exact .inl (mem_own.2 (.inr (.inr (.inr (.inr (.inl h2))))))
    ·exact .inr h2
   ·exact .inl (mem_own.2 (.inr (.inr (.inr (.inr (.inr hk))))))
  ·rw [mem_own] at k2
   simp only [not_or] at k2
   exact hold4 k k1 k2.2.2.2.1 k2.2.2.2.2.1 k2.1
 refine ⟨?_,hT⟩
 obtain ⟨raw,h1,h2,h3⟩:=h.cells
 have hlg:E.lv.ownBlock≠some E.g:=fun e=>(a4 _ e).1 rfl
 have hlvg:∀ k,lv.ownBlock=some k->k≠E.g:=fun k hk e=>by
  subst e
  rcases hnew _ hk with h4 | h4
  ·exact hlg h4
  ·have:=h.lt;omega
 -- blocks of S stay, and lie in the new S
 have hS:∀ k,(k<w.heap.size/\k∉E.own)->(k<(w3.setCell ⟨E.g,26,none⟩ lv).heap.size/\k∉(E.withL lv).own):=by
  rintro k ⟨k1,k2⟩
  refine ⟨by simp;omega,fun k3=>?_⟩
  rcases hT.2.1 k k3 with k4 | k4
  ·exact k2 k4
  ·omega
 have hkS:∀ p:Addr,(p.block<w.heap.size/\p.block∉E.own)->(w3.setCell ⟨E.g,26,none⟩ lv).cell? p=w.cell? p:=fun p hp=>World.cell?_of_block (hT.2.2.1 p.block hp.1 hp.2)
 refine ⟨⟨raw,h1,h2,?_⟩,h.few,?_,h.small,?_,?_,?_,h.place,h.ent⟩
 ·show (w3.setCell ⟨E.g,26,none⟩ lv).heap[E.g]? = _
  rw [eg_heap lv ((hold E.g h.lt a3 hlg).trans h3)]
  unfold egCells
  rw [show (26:Nat)=17+9 from rfl,eg_set _ _ _ (by rw [fk_len,h1])]
  rfl
 ·exact h.tab.keep (hold4 _ h.tab.lt.1 a7 (fun e=>(a4 _ e).2.1 rfl) (Ne.symm a1)) (hold4 _ h.tab.lt.2 a8 (fun e=>(a4 _ e).2.2.1 rfl) (Ne.symm a2))
 ·exact him.keep ((set_block (Ne.symm a3)).trans ((hg.block _ (by have:=him.lt;omega) (fun e=>(a4 _ e.symm).2.2.2.1 rfl)).trans (hb2.block _ him.lt)))
 ·refine LiOwn.snoc hvs hsub (row_keep hown (fun k hk=>set_block (hlvg k hk))) hkS hS (hl.1.keep (fun p hp=>hkS p hp.1) (fun k hk2=>⟨hS k hk2.1,hk2.2⟩)) (hl.2.keep hkS hS)
 ·exact row_keep h.nums (fun k (hk:E.uv.ownBlock=some k)=>hold4 k (ho k (mem_own.2 (by simp [hk]))) (a5 k hk).2.2.2 (fun e=>(a4 k e).2.2.2.2 hk) (a5 k hk).1)
theorem EgAt.use {w w2 w3:World} {E:EgA} {sec:Bool} {eg:Eg} {u:Nat} {uv:Value} (h:EgAt w E sec eg) (hb2:Below w.heap.size w w2)
  (hown:w3.ownsRow 0 3 1 uv (eg.used.length+1) (eg.used.map usV++[usV u])) (hg:w2.grownBy w3 E.uv.ownBlock) (hv:uv.ownBlock=E.uv.ownBlock∨uv.ownBlock=some w2.heap.size) :
  EgAt (w3.setCell ⟨E.g,27,none⟩ uv) (E.withU uv) sec { eg with used:=eg.used++[u] }/\Turn E.own w (E.withU uv).own (w3.setCell ⟨E.g,27,none⟩ uv):=by
 have ho:=h.owned
 obtain ⟨a1,a2,a3,a6,a7,a8,a4,a5⟩:=h.apart
 have hz2:=hb2.size
 have hz3:=hg.size
 have hold:∀ k,k<w.heap.size->E.uv.ownBlock≠some k->w3.heap[k]? = w.heap[k]?:=fun k hk1' hk3=>
  (hg.block k (by omega) (fun e=>hk3 e.symm)).trans (hb2.block k (by omega))
 have hold4:∀ k,k<w.heap.size->E.uv.ownBlock≠some k->k≠E.g->(w3.setCell ⟨E.g,27,none⟩ uv).heap[k]? = w.heap[k]?:=fun k k1 k3 k4=>(set_block k4).trans (hold k k1 k3)
 have hnew:∀ k,uv.ownBlock=some k->E.uv.ownBlock=some k∨w.heap.size<=k:=by
  intro k hk
  rcases hv with hv | hv
  ·exact .inl (hv ▸ hk)
  ·rw [hv] at hk;cases hk;exact .inr (by omega)
 have hT:Turn E.own w (E.withU uv).own (w3.setCell ⟨E.g,27,none⟩ uv):=by
  refine ⟨by simp;omega,fun k hk=>?_,fun k k1 k2=>?_,(Still.bel hb2).trans (show Still w2 (w3.setCell ⟨E.g,27,none⟩ uv) from (Still.grown hg:Still w2 w3))⟩
  ·rcases mem_own.1 hk with rfl | rfl | rfl | rfl | hk | hk
   ·exact .inl (mem_own.2 (.inl rfl))
   ·exact .inl (mem_own.2 (.inr (.inl rfl)))
   ·exact .inl (mem_own.2 (.inr (.inr (.inl rfl))))
   ·exact .inl (mem_own.2 (.inr (.inr (.inr (.inl rfl)))))
   ·exact .inl (mem_own.2 (.inr (.inr (.inr (.inr (.inl hk))))))
   ·rcases hnew k hk with h2 | h2
    ·exact .inl (mem_own.2 (.inr (.inr (.inr (.inr (.inr h2))))))
    ·exact .inr h2
  ·rw [mem_own] at k2
   simp only [not_or] at k2
   exact hold4 k k1 k2.2.2.2.2.2 k2.1
 refine ⟨?_,hT⟩
 obtain ⟨raw,h1,h2,h3⟩:=h.cells
 have hlg:E.uv.ownBlock≠some E.g:=fun e=>(a5 _ e).1 rfl
 have hlvg:∀ k,uv.ownBlock=some k->k≠E.g:=fun k hk e=>by
  subst e
  rcases hnew _ hk with h4 | h4
  ·exact hlg h4
  ·have:=h.lt;omega
 have hS:∀ k,(k<w.heap.size/\k∉E.own)->(k<(w3.setCell ⟨E.g,27,none⟩ uv).heap.size/\k∉(E.withU uv).own):=by
  rintro k ⟨k1,k2⟩
  refine ⟨by simp;omega,fun k3=>?_⟩
  rcases hT.2.1 k k3 with k4 | k4
  ·exact k2 k4
  ·omega
 have hkS:∀ p:Addr,(p.block<w.heap.size/\p.block∉E.own)->(w3.setCell ⟨E.g,27,none⟩ uv).cell? p=w.cell? p:=fun p hp=>World.cell?_of_block (hT.2.2.1 p.block hp.1 hp.2)
 refine ⟨⟨raw,h1,h2,?_⟩,h.few,?_,h.small,?_,?_,?_,h.place,h.ent⟩
 ·show (w3.setCell ⟨E.g,27,none⟩ uv).heap[E.g]? = _
  rw [eg_heap uv ((hold E.g h.lt hlg).trans h3)]
  unfold egCells
  rw [show (27:Nat)=17+10 from rfl,eg_set _ _ _ (by rw [fk_len,h1])]
  rfl
 ·exact h.tab.keep (hold4 _ h.tab.lt.1 (fun e=>(a5 _ e).2.1 rfl) (Ne.symm a1)) (hold4 _ h.tab.lt.2 (fun e=>(a5 _ e).2.2.1 rfl) (Ne.symm a2))
 ·exact h.img.keep (hold4 _ h.img.lt (fun e=>(a5 _ e).2.2.2 rfl) (Ne.symm a3))
 ·exact h.rows.keep (fun k hk=>hold4 k (ho k (mem_own.2 (by simp [hk]))) (a4 k hk).2.2.2.2 (a4 k hk).1) hkS hS
 ·have:=row_keep hown (fun k hk=>set_block (i:=27) (u:=uv) (hlvg k hk))
  show (w3.setCell ⟨E.g,27,none⟩ uv).ownsRow 0 3 1 uv (eg.used++[u]).length ((eg.used++[u]).map usV)
  simpa using this
def badA (op:List UInt8) (a:Ar):Bool:=!plainA a && !(a.is && op == sDB)
theorem laidA_eq (s:St) (least most:Nat):laidA s least most=(decide (least<=s.args.length) && decide (s.args.length<=most) && !s.args.any (badA s.op)):=by
 unfold laidA
 congr 1
 rw [List.not_any_eq_all_not]
 congr 1
 funext a
 unfold badA
 cases plainA a <;> cases a.is <;> cases (s.op == sDB) <;> rfl
theorem laidclo_any (op:List UInt8) (a:Ar) (v:Value) (bs:Nat) (w:World) (hs:SubAt w (· < w.heap.size) v a.e.sub) (ho:w.cell? ⟨bs,2,none⟩=some (.string ⟨op.toArray⟩)) :
  Calls Tryz.prog 232 #[arV a v,.pointer (some ⟨bs,0,none⟩)] w fun e w'=>e=.returned (.bool (badA op a))/\Below w.heap.size w w':=by
 have h2:=World.block_lt_of_cell? _ _ ho
 have HP:=LH (fun W=>plainA_any a v W)
 have HB:Hid (badA op a=(!plainA a && !(a.is && op == sDB))):=LH rfl
 obtain ⟨A,c,rfl,_,_⟩:=hs.form
 generalize badA op a=rb at *
 generalize plainA a=pa at *
 obtain ⟨aw,at1,ais,amem,ae⟩:=a
 unfold arV arCells at *
 simp only at *
 have O1:=LH (heap_alloc_new w (.cells #[.string ⟨aw.toArray⟩,.string ⟨at1.toArray⟩,.bool ais,.bool amem,.string ⟨ae.op.toArray⟩,.int .u16 ae.n,.string ⟨ae.name.toArray⟩,.slice A ae.sub.length c] 72))
 have B1:=LH ((Below.refl w.heap.size w).alloc (Nat.le_refl _) (.cells #[.string ⟨aw.toArray⟩,.string ⟨at1.toArray⟩,.bool ais,.bool amem,.string ⟨ae.op.toArray⟩,.int .u16 ae.n,.string ⟨ae.name.toArray⟩,.slice A ae.sub.length c] 72))
 have HO:=LH ho
 clear hs ho
 cases pa with
 | true=>
  have HX:Hid (rb=false):=LH HB.out
  go_enter Tryz.func232, Tryz.ntmps232
  go_wp2_with fail
  refine (HP.out _).mono ?_
  rintro e w2 ⟨rfl,hb2⟩
  go_wp2_with fail
  go_ret
  rw [HX.out]
  exact ⟨rfl,bthen B1.out hb2⟩
 | false=>
  cases ais with
  | false=>
   have HX:Hid (rb=true):=LH HB.out
   go_enter Tryz.func232, Tryz.ntmps232
   go_wp2_with fail
   refine (HP.out _).mono ?_
   rintro e w2 ⟨rfl,hb2⟩
   have k2:=coh (i:=2) ((hb2.block w.heap.size (by simp)).trans O1.out)
   simp at k2
   go_wp2_with fail
   go_ret
   rw [HX.out]
   exact ⟨rfl,bthen B1.out hb2⟩
  | true=>
   have HX:Hid (rb = !(op == sDB)):=LH HB.out
   generalize hq:(op == sDB)=q at *
   go_enter Tryz.func232, Tryz.ntmps232
   go_wp2_with fail
   refine (HP.out _).mono ?_
   rintro e w2 ⟨rfl,hb2⟩
   have k2:=coh (i:=2) ((hb2.block w.heap.size (by simp)).trans O1.out)
   simp at k2
   have B2:=LH (bthen B1.out hb2)
   have ho2:=(B2.out.cell (p:=⟨bs,2,none⟩) h2).trans HO.out
   go_wp2_with fail
   go_ret
   rw [HX.out]
   exact ⟨rfl,B2.out⟩
theorem laid_any (s:St) (v:Value) (least most:Nat) (_hlm:most<=1000) (w:World) (hs:ArAt w (· < w.heap.size) v s.args) :
  Calls Tryz.prog 203 #[stV s v,.int .i64 least,.int .i64 most] w fun e w'=>e=.returned (.bool (laidA s least most))/\Below w.heap.size w w':=by
 have HL:=LH (laidA_eq s least most)
 have HS:=LH hs
 obtain ⟨A,c,rfl,hc,hm⟩:=hs.form
 have B1:=LH ((Below.refl w.heap.size w).alloc (Nat.le_refl _) (.cells #[.string ⟨s.label.toArray⟩,.bool s.colon,.string ⟨s.op.toArray⟩,.slice A s.args.length c] 63))
 have O1:=LH (heap_alloc_new w (.cells #[.string ⟨s.label.toArray⟩,.bool s.colon,.string ⟨s.op.toArray⟩,.slice A s.args.length c] 63))
 have HC:Hid (Calls Tryz.prog 37 #[.slice A s.args.length c,.func (.func 232) #[] #[.pointer (some ⟨w.heap.size,0,none⟩)]] (w.alloc (.cells #[.string ⟨s.label.toArray⟩,.bool s.colon,.string ⟨s.op.toArray⟩,.slice A s.args.length c] 63)) fun e w'=>e=.returned (.bool (s.args.any (badA s.op)))/\Below (w.alloc (.cells #[.string ⟨s.label.toArray⟩,.bool s.colon,.string ⟨s.op.toArray⟩,.slice A s.args.length c] 63)).heap.size (w.alloc (.cells #[.string ⟨s.label.toArray⟩,.bool s.colon,.string ⟨s.op.toArray⟩,.slice A s.args.length c] 63)) w'):=
  LH (contA_gen (badA s.op) s.args _ _ _ _ ⟨fun args W=>enters_of Tryz.func232 (by kernel_rfl) rfl args W,fun a v W ha hW hsub=>laidclo_any s.op a v w.heap.size W hsub (by
   have h3:=hW.block w.heap.size (by simp)
   rw [coh (h3.trans O1.out)]
   rfl)⟩ (HS.out.at B1.out (by simp)))
 obtain ⟨lab,colon,op,args⟩:=s
 unfold stV
 simp only at *
 generalize laidA ⟨lab,colon,op,args⟩ least most=res at *
 generalize args.any (badA op)=ab at *
 have e1:decide ((args.length:Int)<(least:Int)) = !decide (least<=args.length):=by rw [Bool.eq_iff_iff];simp
 have e3:decide (args.length<least) = !decide (least<=args.length):=by rw [Bool.eq_iff_iff];simp
 have e4:decide (most<args.length) = !decide (args.length<=most):=by rw [Bool.eq_iff_iff];simp
 have e2:decide ((most:Int)<(args.length:Int)) = !decide (args.length<=most):=by rw [Bool.eq_iff_iff];simp
 generalize decide (least<=args.length)=q1 at *
 generalize decide (args.length<=most)=q2 at *
 clear hs hm hc
 cases q1
 ·have HX:Hid (res=false):=LH HL.out
  go_enter Tryz.func203, Tryz.ntmps203
  go_wp2_with fail
  go_ret
  rw [HX.out]
  exact ⟨rfl,B1.out⟩
 ·cases q2
  ·have HX:Hid (res=false):=LH HL.out
   go_enter Tryz.func203, Tryz.ntmps203
   go_wp2_with fail
   go_ret
   rw [HX.out]
   exact ⟨rfl,B1.out⟩
  ·have HX:Hid (res = !ab):=LH HL.out
   go_enter Tryz.func203, Tryz.ntmps203
   go_wp2_with fail
   refine HC.out.mono ?_
   rintro e w2 ⟨rfl,hb2⟩
   go_wp2_with fail
   go_ret
   rw [HX.out]
   exact ⟨rfl,bthen B1.out hb2⟩
section
variable {P:Program} {ops:Array Oper} {md:Region.Mode} {C:World->Prop}
def wpAnyQL (P:Program) (md:Region.Mode) (ops:Array Oper) (C:World->Prop) (n:Nat) (L:Array Bool->Act->Prop):Nat->Array Bool->Act->Prop
 | 0,listed,a=>L listed a
 | f+1,listed,a=>
  Region.ready md ops listed≠[]/\∀ i∈Region.ready md ops listed,i<n/\qOp P ops C i (wpAnyQL P md ops C n L f (listed.setIfInBounds i true)) a
theorem wpAny_of_qhead {n g:Nat} {L:Array Bool->Act->Prop} {Q':Exit->Act->World->Prop} (hL:∀ listed a w,C w->L listed a->wpAny P md ops Q' g listed a w) :
  ∀ (f:Nat) (listed:Array Bool) (a:Act) (w:World),C w->wpAnyQL P md ops C n L f listed a->wpAny P md ops Q' (f+g) listed a w
 | 0,listed,a,w,hw,h=>by rw [Nat.zero_add];exact hL _ _ _ hw h
 | f+1,listed,a,w,hw,h=>by
  rw [show f+1+g=(f+g)+1 by omega]
  exact ⟨fun h0=>absurd h0 h.1,fun i hi=>wpOp_of_qOp hw (fun a' w' hw' h'=>wpAny_of_qhead hL f _ a' w' hw' h') (h.2 i hi).2⟩
theorem wpAnyQL_first {n i:Nat} {oi:Oper} {v:Value} {L:Array Bool->Act->Prop} (hi:ops[i]? = some oi) (hsel:∀ (j:Nat) (o:Oper) cs b,ops[j]? = some o->o.op≠.select cs b)
  (hs:Region.sinkB md ops n=true) (hc:Region.chainB md ops n=true) (hn:n<ops.size) (hin:i<n)
  (hdone:∀ listed a,L listed a->∀ j∈Region.ready md ops listed,n<=j) :
  ∀ (f:Nat) (listed:Array Bool) (a:Act),HeadInv md ops n listed ->
   (∀ j oj,ops[j]? = some oj->j≠i->listed.getD j true=false->(∀ e∈oj.after,Region.binds md e=true->e.on≠i)->oi.apart ops oj=true) ->
   i∈Region.ready md ops listed->YieldsIn P ops C oi v a ->
   wpAnyQL P md ops C n L f (listed.setIfInBounds i true) (a.put oi.dst v)->wpAnyQL P md ops C n L (f+1) listed a:=by
 intro f
 induction f with
 | zero=>
  intro listed a inv _ hr hy H
  have hun:=(mem_ready.1 hr).1
  refine ⟨List.ne_nil_of_mem hr,fun j hj=>?_⟩
  have hjn:j<n:=Nat.lt_of_not_le fun h=>tail_waits hs hc hn inv _ i rfl hin hun j h hj
  refine ⟨hjn,?_⟩
  by_cases hji:j=i
  ·subst hji;exact hy.qOp hi H
  ·exact absurd (hdone _ _ H j (ready_mono hj hji)) (by omega)
 | succ f ih=>
  intro listed a inv hfree hr hy H
  have hun:=(mem_ready.1 hr).1
  refine ⟨List.ne_nil_of_mem hr,fun j hj=>?_⟩
  have hjn:j<n:=Nat.lt_of_not_le fun h=>tail_waits hs hc hn inv _ i rfl hin hun j h hj
  refine ⟨hjn,?_⟩
  by_cases hji:j=i
  ·subst hji;exact hy.qOp hi H
  ·have h1:=(H.2 j (ready_mono hj hji)).2
   obtain ⟨hjun,oj,hoj,hall⟩:=mem_ready.1 hj
   have hnot:∀ e∈oj.after,Region.binds md e=true->e.on≠i:=fun e he hb heq=>by
    have h1:=hall e he hb
    rw [heq,getD_both hun] at h1
    cases h1
   have h2:=qOp_put hoj (hfree j oj hoj hji hjun hnot) (fun cs b=>hsel i oi cs b hi) (fun cs b=>hsel j oj cs b hoj) hy h1
   have hfree':∀ k ok,ops[k]? = some ok->k≠i->(listed.setIfInBounds j true).getD k true=false ->
     (∀ e∈ok.after,Region.binds md e=true->e.on≠i)->oi.apart ops ok=true:=fun k ok hk hki hun2 hno=>by
    refine hfree k ok hk hki ?_ hno
    by_cases hjk:j=k
    ·subst hjk;exact hjun
    ·rw [getD_set_ne true hjk] at hun2;exact hun2
   refine qOp_mono (fun a' h3=>ih (listed.setIfInBounds j true) a' (inv.set hj hjn) hfree' (ready_mono hr (Ne.symm hji)) h3.1 ?_) h2
   rw [Array.setIfInBounds_comm _ _ hji]
   exact h3.2
theorem wpAnyQL_lex {n g:Nat} {Lq:Act->Prop} (hsel:Region.noSelect ops=true) (hs:Region.sinkB md ops n=true) (hc:Region.chainB md ops n=true) (hn:n<ops.size) :
  ∀ (l:List Oper) (k:Nat) (listed:Array Bool) (a:Act),(∀ j,j<l.length->l[j]? = ops[k+j]?)->k+l.length=n->HeadInv md ops n listed ->
  Region.lexHead md ops g l.length k listed=true->wpQuiet P ops C Lq l a ->
  wpAnyQL P md ops C n (fun listed' a'=>Region.seqB md ops g n listed'=true/\Lq a') l.length listed a
 | [],k,listed,a,_,hk,_,hB,h=>by
  obtain rfl:k=n:=by simpa using hk
  exact ⟨by simpa [Region.lexHead] using hB,h⟩
 | o :: l,k,listed,a,hl,hk,inv,hB,h=>by
  have h0:ops[k]? = some o:=by simpa using (hl 0 (by simp)).symm
  simp only [List.length_cons,Region.lexHead,Bool.and_eq_true] at hB
  obtain ⟨⟨hr,hf⟩,hB'⟩:=hB
  have hkn:k<n:=by simp only [List.length_cons] at hk;omega
  have hr':k∈Region.ready md ops listed:=by simpa using hr
  have hst:qOp P ops C k (wpQuiet P ops C Lq l) a:=by unfold qOp;simp only [h0];exact h
  obtain ⟨v,hy,hK⟩:=yieldsIn_of_qOp h0 hst
  exact wpAnyQL_first h0 (Region.noSelect_spec hsel) hs hc hn hkn (fun listed' a' hL=>seqB_ready hL.1) l.length listed a inv (Region.free_spec h0 hf) hr' hy
   (wpAnyQL_lex hsel hs hc hn l (k+1) _ _ (fun j hj=>by have:=hl (j+1) (by simp;omega);simpa [Nat.add_assoc,Nat.add_comm 1 j] using this) (by simp only [List.length_cons] at hk;omega) (inv.set hr' hkn) hB' hK)
theorem wp_region_quiet_tail {id:Nat} {Q:Exit->Act->World->Prop} {a:Act} {w:World} {l:List Oper} (n:Nat) (hm:P.follows .mixedOrders=true) (hB:Region.lexTailB .any l.toArray n=true)
  (h:wpQuiet P l.toArray (fun w'=>∃ p:Regrown,w'=Go.Sort.grow (redrawn w p.d) p.os) (fun a'=>∀ w',(∃ p:Regrown,w'=Go.Sort.grow (redrawn w p.d) p.os)->wpList P l.toArray Q (l.drop n) a' w') (l.take n) a):(Code.region id l.toArray true).wp P Q a w:=by
 simp only [Region.lexTailB,Bool.and_eq_true,decide_eq_true_eq] at hB
 obtain ⟨⟨⟨⟨hsel,hn⟩,hs⟩,hc⟩,hlex⟩:=hB
 have hn':n<l.length:=by simpa using hn
 have htl:(l.take n).length=n:=by simp;omega
 have hdl:(l.drop n).length=l.toArray.size - n:=by simp
 have inv0:HeadInv .any l.toArray n (Array.replicate l.toArray.size false):=
  ⟨by simp,fun j oj _ hl=>(by rw [getD_replicate_false] at hl;cases hl),fun t _ ht=>getD_in (by simpa using ht) (getD_replicate_false _ _)⟩
 have H:=wpAnyQL_lex (md:=.any) (g:=l.toArray.size - n) hsel hs hc hn (l.take n) 0 _ a (fun j hj=>by
  have hj':j<n:=by rw [htl] at hj;exact hj
  simp [hj']) (by simpa using htl) inv0 (by rw [htl];exact hlex) h
 refine wp_region_any hm ?_
 have K:=wpAny_of_qhead (Q':=Q) (g:=l.toArray.size - n) (fun listed a' w' hw' hL=>by
  have h3:=wpAny_of_seq (Q':=Q) (l.drop n) n listed a' w' (fun j=>by simp [List.getElem?_drop]) (by rw [hdl];exact hL.1) (hL.2 w' hw')
  rwa [hdl] at h3) _ _ _ { w with drawn:=w.drawn+1 } ⟨⟨w.drawn+1,#[]⟩,by rw [Go.Sort.grow_empty];rfl⟩ H
 rw [htl,show n+(l.toArray.size - n)=l.toArray.size by omega] at K
 exact K
end
theorem EgAt.sym {w w':World} {E:EgA} {sec:Bool} {eg:Eg} {m:List UInt8} {n how:Nat} {e:Ending} (h:EgAt w E sec eg) (hp:PutR E.tb E.mb eg.syms m n how w e w'):EgR E sec w (symA eg m n how) e w':=by
 obtain ⟨he,ht,hz,hk,hst⟩:=hp
 have hT:=Turn.one (O:=E.own) (b:=E.mb) (mem_own.2 (by simp)) hz hk hst
 by_cases h0:putK eg.syms m how=0
 ·have hs:symA eg m n how=({ eg with syms:=setT eg.syms m n how },0):=by unfold symA;rw [if_neg (by simp [h0])]
  rw [hs,he,h0]
  rw [if_pos h0] at ht
  exact ⟨rfl,E,E.like_refl,hT,fun _=>h.tabs _ ht (setT_len _ _ _ _ h.small h0) hz hk⟩
 ·have hs:symA eg m n how=(eg,putK eg.syms m how):=by unfold symA;rw [if_pos h0]
  rw [hs,he]
  exact EgR.bad _ h0 hT
theorem EgR.bel {E:EgA} {sec:Bool} {w w1 w2:World} {r:Eg × Nat} {e:Ending} (h:EgR E sec w1 r e w2) (hb:Below w.heap.size w w1):EgR E sec w r e w2:=by
 obtain ⟨h1,E',h2,h3,h4⟩:=h
 exact ⟨h1,E',h2,(Turn.of_below hb).trans h3,h4⟩
theorem eg_label (E:EgA) (sec:Bool) (eg:Eg) (m:List UInt8) (hm:m.length<=1000) (w:World) (h:EgAt w E sec eg) :
  Calls Tryz.prog 204 #[.pointer (some ⟨E.g,0,none⟩),.string ⟨m.toArray⟩] w (EgR E sec w (labelA sec eg m)):=by
 obtain ⟨k0,_,_,k19,_,_,k22,_⟩:=h.cell
 have hpl:=h.place
 by_cases h1:65536<=eg.pl
 ·have e1:decide ((65536:Int)<=(eg.pl:Int))=true:=by simp;omega
  have e2:(65536:Int)<=(eg.pl:Int):=by omega
  have hv:labelA sec eg m=(eg,7):=by unfold labelA;rw [if_pos h1]
  rw [hv]
  clear h
  go_enter Tryz.func204, Tryz.ntmps204
  go_wp2_with fail
  go_ret
  exact EgR.bad 7 (by decide) (Turn.refl _ _)
 have e1:decide ((65536:Int)<=(eg.pl:Int))=false:=by simp;omega
 have e2:¬ (65536:Int)<=(eg.pl:Int):=by omega
 cases sec with
 | true=>
  have hv:labelA true eg m=(eg,0):=by unfold labelA;rw [if_neg h1];rfl
  rw [hv]
  have H:=LH h
  clear h
  go_enter Tryz.func204, Tryz.ntmps204
  go_wp2_with fail
  go_ret
  exact ⟨rfl,E,E.like_refl,Turn.refl _ _,fun _=>H.out⟩
 | false=>
  have hv:labelA false eg m=symA eg m eg.pl 1:=by unfold labelA;rw [if_neg h1];rfl
  rw [hv]
  have H:=LH h
  have hmod:eg.pl % 65536=eg.pl:=by omega
  have cH:∀ d' os,Calls Tryz.prog 235 #[.agg #[.int .i64 eg.pl]] (Go.Sort.grow (redrawn w d') os) fun e w''=>e=.returned (.int .u16 (eg.pl:Nat))/\∃ p:Regrown,w''=Go.Sort.grow (redrawn w p.d) p.os:=fun d' os=>Calls.regrown_of (by have:=here_any eg.pl (by omega) (Go.Sort.grow (redrawn w d') os);rw [hmod] at this;exact this)
  have CH:=LH cH
  have HP:=LH (fun W (hW:Below w.heap.size w W)=>symPut_any E.tb E.mb eg.syms m hm eg.pl 1 (by omega) (by decide) (by decide) h.small W (h.bel hW).tab)
  have j0:=cell_regrown k0
  have j22:=cell_regrown k22
  clear h cH hmod
  go_enter Tryz.func204, Tryz.ntmps204
  go_wp2_with fail
  clear k22
  refine wp_region_quiet_tail 10 (by kernel_rfl) (by kernel_rfl) ?_
  repeat (quiet_step (first | (go_at_call 235;exact CH.out _ _)))
  refine wpQuiet_nil ?_
  intro _ hw'
  obtain ⟨⟨dq,osq⟩,hw''⟩:=hw'
  subst hw''
  have B:=LH (below_regrown w dq osq)
  go_wp2_with fail
  refine (HP.out _ B.out).mono ?_
  intro e w2 hp
  have HR:=LH (((H.out.bel B.out).sym hp).bel B.out)
  obtain rfl:=hp.1
  clear hp
  generalize putK eg.syms m 1=pk at *
  go_wp2_with fail
  go_ret
  exact HR.out
end Go.Proofs.YtbdnbfacalfciaaGreatDoor
