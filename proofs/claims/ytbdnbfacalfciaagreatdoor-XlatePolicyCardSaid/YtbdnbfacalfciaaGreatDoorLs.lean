/- Ls. -/
import Derived.Test.YtbdnbfacalfciaaGreatDoorLr
import Derived.Test.YtbdnbfacalfciaaGreatDoorLn29
import Derived.Test.YtbdnbfacalfciaaGreatDoorKn
import Derived.Test.YtbdnbfacalfciaaGreatDoorPureLn5
import Derived.Test.YtbdnbfacalfciaaGreatDoorKa
import Derived.Deep.Cut
import Derived.Deep.CutRange
import Derived.Deep.DeepCutAuto
import Derived.Deep.CutBlock
import Derived.Test.YtbdnbfacalfciaaGreatDoorKd
import Derived.Test.YtbdnbfacalfciaaGreatDoorKh
import Derived.Test.YtbdnbfacalfciaaGreatDoorPureSrc
namespace Go.Proofs.YtbdnbfacalfciaaGreatDoor
set_option maxRecDepth 100000
set_option maxHeartbeats 4000000
open Go.RowKit
abbrev stBox (lab:List UInt8) (colon:Bool) (op:List UInt8) (v:Value):Obj:=.cells #[.string ⟨lab.toArray⟩,.bool colon,.string ⟨op.toArray⟩,v] 63
def Parse12P (w:World) (res:St × Nat) (e:Ending) (w':World):Prop:=
 ∃ v,e=.returned (.tuple #[stV res.1 v,.int .i64 res.2])/\ArAt w' (fun g=>w.heap.size<=g/\g<w'.heap.size) v res.1.args/\Below w.heap.size w w'
def RdX (w:World) (B R:Nat) (v:Value) (ts:List Tok):Prop:=∃ (A:Option Addr) (c:Nat),v=.slice A ts.length c/\ts.length<=c /\
 (0<ts.length->∃ g o,A=some ⟨g,o,none⟩/\B<g/\g<R/\∀ j u,(tokRow ts)[j]? = some u->w.cell? ⟨g,o+j,none⟩=some u)
theorem RdX.keep {w w':World} {B R:Nat} {v:Value} {ts:List Tok} (h:RdX w B R v ts) (hk:∀ p:Addr,B<p.block->p.block<R->w'.cell? p=w.cell? p):RdX w' B R v ts:=by
 obtain ⟨A,c,h1,h2,h3⟩:=h
 refine ⟨A,c,h1,h2,fun h0=>?_⟩
 obtain ⟨g,o,e,b1,b2,h4⟩:=h3 h0
 exact ⟨g,o,e,b1,b2,fun j u hu=>(hk _ b1 b2).trans (h4 j u hu)⟩
theorem RdX.rd {w:World} {B R:Nat} {v:Value} {ts:List Tok} (h:RdX w B R v ts):Rd w R v ts.length (tokRow ts):=by
 obtain ⟨A,c,h1,h2,h3⟩:=h
 refine ⟨A,c,h1,h2,fun h0=>?_⟩
 obtain ⟨g,o,e,b1,b2,h4⟩:=h3 h0
 exact ⟨g,o,e,b2,h4⟩
theorem RdX.of_own {w:World} {base B:Nat} {e:TypeId} {v:Value} {ts:List Tok} (h:w.ownsRow base e 3 v ts.length (tokRow ts)) (hB:B<base):RdX w B w.heap.size v ts:=by
 obtain ⟨A,c,h1,h2,_,h3⟩:=own_slice h (by omega)
 refine ⟨A,c,h1,h2,fun h0=>?_⟩
 obtain ⟨g,e,b1,b2,_,h4⟩:=h3 h0
 exact ⟨g,0,e,by omega,b2,fun j u hu=>by rw [Nat.zero_add];exact h4 j u hu⟩
theorem tokRow_drop (ts:List Tok) (n j:Nat) (u:Value) (h:(tokRow (ts.drop n))[j]? = some u):(tokRow ts)[3 * n+j]? = some u:=by
 have e:ts=ts.take n++ts.drop n:=(List.take_append_drop n ts).symm
 rcases Nat.lt_or_ge ts.length n with hn | hn
 ·rw [List.drop_eq_nil_of_le (by omega)] at h
  simp [tokRow] at h
 ·rw [e,tokRow_app,List.getElem?_append_right (by rw [tokRow_length];simp;omega),tokRow_length,List.length_take,Nat.min_eq_left hn]
  rw [show 3 * n+j - n * 3=j by omega]
  exact h
theorem RdX.drop {w:World} {B R g o c:Nat} {ts:List Tok} (n m:Nat) (h:RdX w B R (.slice (some ⟨g,o,none⟩) ts.length c) ts) (hm:m=3 * n) (hn:n<=ts.length):RdX w B R (.slice (if c=n then some ⟨g,o,none⟩ else some ⟨g,o+m,none⟩) (ts.length - n) (c - n)) (ts.drop n):=by
 obtain ⟨A',c',hv,hc,h3⟩:=h
 injection hv with hv1 _ hv3
 subst hv1 hv3 hm
 refine ⟨_,c - n,by rw [List.length_drop],by rw [List.length_drop];omega,fun h0=>?_⟩
 rw [List.length_drop] at h0
 obtain ⟨g',o',e,b1,b2,h4⟩:=h3 (by omega)
 injection e with e
 injection e with e1 e2 _
 subst e1 e2
 rw [if_neg (by omega)]
 exact ⟨g,_,rfl,b1,b2,fun j u hu=>by rw [Nat.add_assoc];exact h4 _ u (tokRow_drop ts n j u hu)⟩
def HeadW (w:World) (R:Nat) (d:Int) (lab:List UInt8) (colon:Bool) (r:List Tok) (w':World):Prop:=
 Below w.heap.size w w'/\w'.heap[w.heap.size]? = some (stBox lab colon [] (.slice none 0 0))/\w.heap.size<R/\∃ tv,w'.heap[R]? = some (rdBox tv d)/\RdX w' w.heap.size R tv r
theorem HeadW.bel {w:World} {R:Nat} {d:Int} {lab:List UInt8} {colon:Bool} {r:List Tok} {w1 w2:World} (h:HeadW w R d lab colon r w1) (hb:Below w1.heap.size w1 w2):HeadW w R d lab colon r w2:=by
 obtain ⟨h1,h2,h3,tv,h4,h5⟩:=h
 exact ⟨bthen h1 hb,(hb.block _ (loh h2)).trans h2,h3,tv,(hb.block _ (loh h4)).trans h4,h5.keep fun p _ hp=>hb.cell (Nat.lt_trans hp (loh h4))⟩
theorem HeadW.colon {w w2:World} {d:Int} {m:List UInt8} {tv:Value} {r:List Tok} (hb:Below w.heap.size w w2) (hc:w2.heap[w.heap.size]? = some (stBox [] false [] (.slice none 0 0))) (hr:RdX w2 w.heap.size w2.heap.size tv r) :
  HeadW w w2.heap.size d m true r (((w2.setCell ⟨w.heap.size,0,none⟩ (.string ⟨m.toArray⟩)).setCell ⟨w.heap.size,1,none⟩ (.bool true)).alloc (rdBox tv d)).drew:=by
 have h1:=heap_set (i:=1) (.bool true) (heap_set (i:=0) (.string ⟨m.toArray⟩) hc)
 refine ⟨(((hb.setCell (Nat.le_refl _) _).setCell (Nat.le_refl _) _).alloc (by simpa using hb.size) _).drew,?_,loh hc,tv,?_,?_⟩
 ·exact ((((Below.refl _ _).alloc (Nat.le_refl _) (rdBox tv d)).block _ (loh h1)).trans h1)
 ·exact heap_last (by simp) _
 ·refine hr.keep fun p p1 p2=>?_
  show World.cell? (World.alloc _ _) p=_
  rw [World.cell?_alloc_lt _ _ _ (by simpa using p2),World.cell?_of_block (Below.heap_setCell _ _ _ p.block (by simp;omega)),World.cell?_of_block (Below.heap_setCell _ _ _ p.block (by simp;omega))]
theorem HeadW.sets {w w5:World} {R:Nat} {d:Int} {m:List UInt8} {tv:Value} {l r:List Tok} (h:HeadW w R d [] false l w5) (hr:RdX w5 w.heap.size R tv r) :
  HeadW w R d m false r ((w5.setCell ⟨w.heap.size,0,none⟩ (.string ⟨m.toArray⟩)).setCell ⟨R,0,none⟩ tv).drew:=by
 obtain ⟨h1,h2,h3,tv0,h4,h5⟩:=h
 refine ⟨((h1.setCell (Nat.le_refl _) _).setCell (by simp;omega) _).drew,?_,h3,tv,?_,?_⟩
 ·show (World.setCell _ _ _).heap[_]? = _
  rw [Below.heap_setCell _ _ _ _ (by simp;omega)]
  exact heap_set (i:=0) (.string ⟨m.toArray⟩) h2
 ·refine heap_set (i:=0) tv ?_ (cs:=#[tv0,.int .i64 d])
  rw [Below.heap_setCell _ _ _ _ (by simp;omega)]
  exact h4
 ·refine hr.keep fun p p1 p2=>?_
  show World.cell? (World.setCell _ _ _) p=_
  rw [World.cell?_of_block (Below.heap_setCell _ _ _ p.block (by simp;omega)),World.cell?_of_block (Below.heap_setCell _ _ _ p.block (by simp;omega))]
def But (N B:Nat) (w w':World):Prop:=w.heap.size<=w'.heap.size/\∀ k,k<N->k≠B->w'.heap[k]? = w.heap[k]?
theorem But.refl (N B:Nat) (w:World):But N B w w:=⟨Nat.le_refl _,fun _ _ _=>rfl⟩
theorem But.bel {N B:Nat} {w w1 w2:World} (h:But N B w w1) (hb:Below N w1 w2):But N B w w2:=⟨Nat.le_trans h.1 hb.size,fun k h1 h2=>(hb.block k h1).trans (h.2 k h1 h2)⟩
theorem But.set {N B:Nat} {w w1:World} (h:But N B w w1) (i:Nat) (u:Value):But N B w (w1.setCell ⟨B,i,none⟩ u):=⟨by simpa using h.1,fun k h1 h2=>(Below.heap_setCell _ _ _ k h2).trans (h.2 k h1 h2)⟩
theorem own_rd_but {w w':World} {base B n:Nat} {v:Value} {xs:List Value} {cs:Array Value} (h:w.ownsRow base 153 3 v n xs) (hB:w.heap[B]? = some (.cells cs 63 (0,0))) (hb:But w.heap.size B w w'):Rd w' w'.heap.size v n xs:=by
 rcases h.2 with ⟨rfl,rfl⟩ | ⟨g,cap,cur,rfl,h0,hg,h1,h2,h3,h4⟩
 ·exact ⟨none,0,rfl,Nat.le_refl _,fun h=>absurd h (by omega)⟩
 ·have hne:g≠B:=by
   intro e
   subst e
   rw [hB] at hg
   injection hg with hg
   injection hg with _ hg
   exact absurd hg (by decide)
  have hg2:=(hb.2 g (loh hg) hne).trans hg
  refine ⟨_,cap,rfl,h1,fun _=>⟨g,0,rfl,loh hg2,fun j u hu=>?_⟩⟩
  rw [Nat.zero_add,coh hg2]
  rw [← h4,List.getElem?_take] at hu
  split at hu
  ·simpa using hu
  ·simp at hu
theorem ArAt.set4 {w:World} {S:Nat->Prop} {v:Value} {l:List Ar} {b:Nat} (h:ArAt w S v l) (hS:∀ g,S g->g≠b) (u0 u1 u2 u3:Value):ArAt ((((w.setCell ⟨b,0,none⟩ u0).setCell ⟨b,1,none⟩ u1).setCell ⟨b,2,none⟩ u2).setCell ⟨b,3,none⟩ u3) S v l:=
 h.keep (fun p hp=>World.cell?_of_block (four_other w b p.block (hS _ hp) u0 u1 u2 u3)) (fun _ h=>h)
theorem bset4 {w w':World} {b N:Nat} (h:Below N w w') (hb:N<=b) (u0 u1 u2 u3:Value):Below N w ((((w'.setCell ⟨b,0,none⟩ u0).setCell ⟨b,1,none⟩ u1).setCell ⟨b,2,none⟩ u2).setCell ⟨b,3,none⟩ u3):=
 (((h.setCell hb _).setCell hb _).setCell hb _).setCell hb _
theorem OwnV.set {α:Type} {f:α->Value->List Value} {sub:World->(Nat->Prop)->Value->α->Prop} {E:TypeId} {C:Nat} (hkeep:∀ w w' S S' v a,sub w S v a->(∀ p:Addr,S p.block->w'.cell? p=w.cell? p)->(∀ g,S g->S' g)->sub w' S' v a)
  {w:World} {base b i:Nat} {v u:Value} {l:List α} {vs:List Value} (h:OwnV f sub E C w base v l vs) (hb:b<base):OwnV f sub E C (w.setCell ⟨b,i,none⟩ u) base v l vs:=by
 obtain ⟨h1,h2,h3⟩:=h
 exact ⟨h1,ownsRow_setCell_below h2 hb u,fun i hi=>hkeep _ _ _ _ _ _ (h3 i hi) (fun p hp=>World.cell?_of_block (Below.heap_setCell _ _ _ p.block (by simp;omega))) (fun g hg=>⟨hg.1,by simpa using hg.2.1,hg.2.2⟩)⟩
theorem cutF_short (sep:List UInt8) (ts:List Tok) (N:Nat):∀ n cur acc,cur.length+ts.length<=N->(∀ p∈acc,p.length<=N)->∀ p∈cutF sep ts n cur acc,p.length<=N:=by
 induction ts with
 | nil=>
  intro n cur acc hc ha p hp
  rcases List.mem_append.1 (show p∈acc++[cur] from hp) with hp | hp
  ·exact ha p hp
  ·simp at hp;subst hp;simpa using hc
 | cons t r ih=>
  intro n cur acc hc ha p hp
  simp at hc
  rw [cutF_cons sep t r n cur acc _ _ _ rfl rfl rfl _ rfl] at hp
  generalize (if isT t [[41],[93]]=true then n - 1 else n)=d1 at hp
  by_cases hc2:(isT t [sep] && d1 == 0)=true
  ·rw [if_pos hc2] at hp
   refine ih _ _ _ (by simp;omega) (fun q hq=>?_) p hp
   rcases List.mem_append.1 hq with hq | hq
   ·exact ha q hq
   ·simp at hq;subst hq;omega
  ·rw [if_neg hc2] at hp
   exact ih _ _ _ (by simp;omega) ha p hp
theorem cutL_short (sep:List UInt8) (ts:List Tok):∀ p∈cutL sep ts,p.length<=ts.length:=by
 unfold cutL
 split
 ·simp
 ·exact cutF_short sep ts _ 0 [] [] (by simp) (fun p hp=>by simp at hp)
theorem argsL_step (d:Int) (op:List UInt8) (ps:List (List Tok)) (k:Nat) (hk:k<ps.length) (acc:List Ar):argsL d op (ps.drop k) acc=if (operandL d op ps[k]).2≠0 then ([],(operandL d op ps[k]).2) else argsL d op (ps.drop (k+1)) (acc++[(operandL d op ps[k]).1]):=by
 rw [List.drop_eq_getElem_cons hk,argsL]
theorem info_ar:(Tryz.prog.info? 72).map (fun i=>(i.zero,i.size,i.bytes))=some (some (.agg #[.string ⟨#[]⟩,.string ⟨#[]⟩,.bool false,.bool false,.string ⟨#[]⟩,.int .u16 0,.string ⟨#[]⟩,.slice none 0 0]),8,104):=by kernel_rfl
def CutW (W:World) (ps:List (List Tok)) (v6:Value) (wx:World):Prop:=∃ vs,wx.ownsRow W.heap.size 145 1 v6 ps.length vs/\Parts wx wx.heap.size vs ps/\Below W.heap.size W wx
theorem rd_new (w:World) (N:Nat) (hN:w.heap.size=N) (cs:List Value) (T:TypeId):Rd (w.alloc (.cells cs.toArray T)) (N+1) (.slice (some ⟨N,0,none⟩) 1 1) 1 cs:=by subst hN;exact Rd.new w cs T
theorem own_block_lt {w:World} {base size n:Nat} {e:TypeId} {v:Value} {xs:List Value} (h:w.ownsRow base e size v n xs):∀ g,v.ownBlock=some g->g<w.heap.size:=by
 rcases h.2 with ⟨rfl,rfl⟩ | ⟨g,cap,cur,rfl,h0,hg,h1⟩
 ·intro g hg;simp [Value.ownBlock] at hg
 ·intro g' hg';simp [Value.ownBlock] at hg';subst hg';exact loh hg
def ParseR (w w6:World) (d:Int) (lab:List UInt8) (colon:Bool) (op:List UInt8) (ps:List (List Tok)) (R:List Ar × Nat) (k:Nat) (wr:World):Prop:=
 ∃ acc v us,acc.length=k/\argsL d op (ps.drop k) acc=R/\Below w.heap.size w wr/\wr.heap[w.heap.size]? = some (stBox lab colon op v)/\ArOwn wr w6.heap.size v acc us/\But w6.heap.size w.heap.size w6 wr
theorem parse12_u (d:Int) (s:List UInt8) (w:World) (hk:knownB d=false) :
  Calls Tryz.prog 31 #[.int .i64 d,.string ⟨s.toArray⟩] w (Parse12P w (st0,1)):=by
 have HK:=LH (fun W=>known_any d W)
 rw [hk] at HK
 clear hk
 go_enter Tryz.func31, Tryz.ntmps31
 go_wp2_with fail
 refine (HK.out _).mono ?_
 rintro e w1 ⟨rfl,rfl⟩
 go_wp2_with fail
 exact bodyPost_ret (v:=.tuple #[.agg #[.string ⟨#[]⟩,.bool false,.string ⟨#[]⟩,.slice none 0 0],.int .i64 1]) (by simp [results,Tryz.results31,go_sem]) rfl ⟨_,rfl,ArAt.nil _ _,((Below.refl _ _).alloc (Nat.le_refl _) _)⟩
theorem parse12_k (d:Int) (s:List UInt8) (w:World) (hg:GWL w) (hk:knownB d=true) (hl:s.length<=1000000) (out:St × Nat) (hout:parseS d s=out) :
  Calls Tryz.prog 31 #[.int .i64 d,.string ⟨s.toArray⟩] w (Parse12P w out):=by
 have HK:=LH (fun W=>known_any d W)
 rw [hk] at HK
 have HL:=LH (fun W (hW:GW W)=>line_any s W hW (by omega))
 have hsm:=lineL_small s
 have hct:=lineL_count s
 unfold parseS at hout
 rw [hk,if_neg (by simp)] at hout
 generalize lineL s=lr at *
 obtain ⟨l,k⟩:=lr
 simp only at *
 have HO:=LH hout
 clear hout hk
 go_enter Tryz.func31, Tryz.ntmps31
 go_wp2_with fail
 refine (HK.out _).mono ?_
 rintro e w1 ⟨rfl,rfl⟩
 have B0:=LH ((Below.refl w.heap.size w).alloc (Nat.le_refl _) (stBox [] false [] (.slice none 0 0)))
 have C0:=LH (heap_alloc_new w (stBox [] false [] (.slice none 0 0)))
 go_wp2_with fail
 refine (HL.out _ (hg.below B0.out).2).mono ?_
 rintro e w2 ⟨va,rfl,ho,hb2⟩
 have B2:=LH (bthen B0.out hb2)
 have C2:=LH ((hb2.block _ (loh C0.out)).trans C0.out)
 have RX:=LH (RdX.of_own (B:=w.heap.size) ho (by simp))
 have ra:=RX.out.rd
 have RA:=LH ra
 obtain ⟨rA,rc,rfl,hrc⟩:=ra.form
 clear ra ho hb2 C0 B0
 by_cases hk0:k=0
 ·subst hk0
  have HO1:=LH ((if_neg (by simp)).symm.trans HO.out)
  have H3:=LH (show HeadW w w2.heap.size d [] false l (w2.alloc (rdBox (.slice rA l.length rc) d)) from ⟨B2.out.alloc B2.out.size _,(((Below.refl w2.heap.size w2).alloc (Nat.le_refl _) (rdBox (.slice rA l.length rc) d)).block _ (loh C2.out)).trans C2.out,loh C2.out,_,heap_alloc_new w2 _,RX.out.keep fun p _ hp=>World.cell?_alloc_lt _ _ _ hp⟩)
  have RD3:=LH ((RA.out.below ((Below.refl w2.heap.size w2).alloc (Nat.le_refl _) (rdBox (.slice rA l.length rc) d))).more (B':=(w2.alloc (rdBox (.slice rA l.length rc) d)).heap.size) (by simp))
  have hB:w.heap.size<w2.heap.size:=loh C2.out
  clear HO HL HK RA
  go_upto_block 0 with (fail)
  go_cut [30,50] (fun _ _ wx=>HeadW w w2.heap.size d (headS l).1 (headS l).2.1 (headS l).2.2 wx)
  case first=>
   have HN:=LH (fun i (hi:0<=i) W (hW:Below (w2.alloc (rdBox (.slice rA l.length rc) d)).heap.size (w2.alloc (rdBox (.slice rA l.length rc) d)) W)=>tname_any l i hi _ W ((RD3.out.below hW).more hW.size))
   have HM:=LH (fun i (hi:0<=i) m W (hW:Below (w2.alloc (rdBox (.slice rA l.length rc) d)).heap.size (w2.alloc (rdBox (.slice rA l.length rc) d)) W)=>tmark_any l i hi m _ W ((RD3.out.below hW).more hW.size))
   go_wp2_with fail
   refine (HN.out 0 (by omega) _ (Below.refl _ _)).mono ?_
   rintro e w4 ⟨rfl,rfl⟩
   rw [show nameT l (0:Int).toNat=nameT l 0 from rfl]
   cases hn0:nameT l 0 with
   | false=>
    have hh:=LH (show headS l=([],false,l) by unfold headS;simp [hn0])
    have HN0:=LH (show nameT l (0:Int).toNat=false from hn0)
    clear hn0
    go_wp2_with fail
    refine (HN.out 0 (by omega) _ (Below.refl _ _)).mono ?_
    rintro e w4 ⟨rfl,rfl⟩
    rw [HN0.out]
    go_wp2_with fail
    go_meet
    rw [hh.out]
    exact H3.out
   | true=>
    have HN0:=LH (show nameT l (0:Int).toNat=true from hn0)
    have h1:0<l.length:=by unfold nameT at hn0;simp at hn0;exact hn0.1
    go_wp2_with fail
    refine (HM.out 1 (by omega) [58] _ (Below.refl _ _)).mono ?_
    rintro e w4 ⟨rfl,rfl⟩
    rw [show markT l (1:Int).toNat [58]=markT l 1 [58] from rfl]
    obtain ⟨g,o,rfl,hgl,c0,c1,c2⟩:=RX.out.rd.tok 0 h1
    rw [← getD_get l 0 h1] at c0 c1 c2
    simp only [Nat.zero_mul,Nat.add_zero] at c0 c1 c2
    obtain ⟨⟨k0,k1,k2,k3⟩,g0,g1,g2,g3⟩:=four C2.out
    cases hm1:markT l 1 [58] with
    | true=>
     have h2:1<l.length:=by unfold markT at hm1;simp at hm1;exact hm1.1.1
     have hh:=LH (show headS l=((l.getD 0 tok0).2.1,true,l.drop 2) by unfold headS;simp [hn0,hm1])
     have hlen:2<=l.length:=h2
     have RX2:=LH (RX.out.drop 2 6 rfl hlen)
     clear hn0 hm1
     generalize l.getD 0 tok0=t0 at *
     go_wp2_with fail
     go_region
     all_goals (
      generalize (if rc=2 then (some ⟨g,o,none⟩:Option Addr) else some ⟨g,o+6,none⟩)=A2 at *
      go_wp2_with fail
      go_meet
      rw [hh.out]
      exact HeadW.colon B2.out C2.out RX2.out)
    | false=>
     have HM1:=LH hm1
     clear hm1
     cases hn1:nameT l 1 with
     | false=>
      have hh:=LH (show headS l=([],false,l) by unfold headS;simp [hn0,hn1,HM1.out])
      have HN1:=LH (show nameT l (1:Int).toNat=false from hn1)
      clear hn0 hn1 k0 k1 k2 k3 g0 g1 g2 g3 c0 c1 c2
      go_wp2_with fail
      refine (HN.out 0 (by omega) _ (Below.refl _ _)).mono ?_
      rintro e w4 ⟨rfl,rfl⟩
      rw [HN0.out]
      go_wp2_with fail
      refine (HN.out 1 (by omega) _ (Below.refl _ _)).mono ?_
      rintro e w4 ⟨rfl,rfl⟩
      rw [HN1.out]
      go_wp2_with fail
      go_meet
      rw [hh.out]
      exact H3.out
     | true=>
      have h2:1<l.length:=by unfold nameT at hn1;simp at hn1;exact hn1.1
      have HN1:=LH (show nameT l (1:Int).toNat=true from hn1)
      obtain ⟨g',o',ha,_,e0,e1,e2⟩:=RX.out.rd.tok 1 h2
      injection ha with ha
      injection ha with ha1 ha2 _
      subst ha1 ha2
      rw [← getD_get l 1 h2] at e0 e1 e2
      simp only [Nat.one_mul] at e0 e1 e2
      have hh:=LH (show headS l=if setsB (l.getD 1 tok0).2.1 then ((l.getD 0 tok0).2.1,false,l.drop 1) else ([],false,l) by unfold headS;simp [hn0,hn1,HM1.out])
      have HS:=LH (fun W=>sets_any (l.getD 1 tok0).2.1 W)
      generalize l.getD 0 tok0=t0 at *
      generalize l.getD 1 tok0=t1 at *
      clear hn0 hn1
      go_wp2_with fail
      refine (HN.out 0 (by omega) _ (Below.refl _ _)).mono ?_
      rintro e w4 ⟨rfl,rfl⟩
      rw [HN0.out]
      go_wp2_with fail
      refine (HN.out 1 (by omega) _ (Below.refl _ _)).mono ?_
      rintro e w4 ⟨rfl,rfl⟩
      rw [HN1.out]
      go_wp2_with fail
      refine (HS.out _).mono ?_
      rintro e w5 ⟨rfl,hb5⟩
      have H5:=LH (H3.out.bel hb5)
      cases hs:setsB t1.2.1 with
      | false=>
       rw [hs] at hh
       clear hs hb5
       go_wp2_with fail
       go_meet
       rw [hh.out]
       exact H5.out
      | true=>
       rw [hs] at hh
       have hgB:w.heap.size<w2.heap.size:=hB
       have hc1:w5.cell? ⟨g,o+1,none⟩=some (.string ⟨t0.2.1.toArray⟩):=(hb5.cell (p:=⟨g,o+1,none⟩) (by simp;omega)).trans ((World.cell?_alloc_lt _ _ _ hgl).trans c1)
       obtain ⟨q1,q2,q3,tv,q4,q5⟩:=H5.out
       obtain ⟨⟨k0,k1,k2,k3⟩,g0,g1,g2,g3⟩:=four q2
       have hR:w5.heap[w2.heap.size]? = some (rdBox (.slice (some ⟨g,o,none⟩) l.length rc) d):=(hb5.block _ (by simp)).trans (heap_alloc_new w2 _)
       have r0:=coh (i:=0) hR
       have r0f:=foh (i:=0) hR
       have hlen:1<=l.length:=by omega
       have RX2:=LH ((((RX.out.keep (w':=w2.alloc (rdBox (.slice (some ⟨g,o,none⟩) l.length rc) d)) fun p _ hp=>World.cell?_alloc_lt _ _ _ hp).keep (w':=w5) fun p _ hp=>hb5.cell (Nat.lt_trans hp (by simp)))).drop 1 3 rfl hlen)
       have RX3:=RX2.out
       rw [if_neg (by omega)] at RX3
       replace RX2:=LH RX3
       simp at r0 r0f
       clear RX3 hs hb5 q1 q2 q4 q5 hR c0 c1 c2 e0 e1 e2
       go_wp2_with fail
       go_region
       all_goals (
        go_wp2_with fail
        go_meet
        rw [hh.out]
        exact HeadW.sets H5.out RX2.out)
  case rest=>
   have HF:=LH (head_ok l hsm)
   have HC:=LH (head_count l)
   generalize (headS l).1=lab at *
   generalize (headS l).2.1=colon at *
   generalize (headS l).2.2=r at *
   have hrl:r.length<=200:=Nat.le_trans HC.out hct
   obtain ⟨wh,rfl⟩:∃ x:World,x=wc:=⟨_,rfl⟩
   clear HC H3 RD3 RX B2 C2 hsm hrc
   obtain ⟨q1,q2,q3,tv,q4,q5⟩:=hcut
   obtain ⟨A,c,rfl,hc⟩:=q5.rd.form
   have B5:=LH q1
   have C5:=LH q2
   have R5:=LH q4
   have X5:=LH q5
   obtain ⟨⟨k0,k1,k2,k3⟩,g0,g1,g2,g3⟩:=four q2
   have r0:=coh (i:=0) q4
   have r0f:=foh (i:=0) q4
   simp at r0 r0f
   clear q1 q2 q4 q5
   have okr:=HF.out.2
   have fl:=HF.out.1
   by_cases hr0:r = []
   ·subst hr0
    have hres:=HO1.out
    unfold bodyS at hres
    rw [if_pos rfl] at hres
    have HRS:=LH hres
    have HRt:=LH (Right12_any d ⟨lab,colon,[],[]⟩ (.slice none 0 0) wh (hg.below B5.out) ⟨fl,by simp,fun a ha=>by simp at ha⟩ (ArAt.nil _ _))
    unfold endS at hres
    generalize rightS d ⟨lab,colon,[],[]⟩=rs at *
    replace HRS:=LH hres
    clear hres HF HO1 X5 hg fl okr
    go_wp2_with fail
    refine HRt.out.mono ?_
    rintro e w6 ⟨rfl,hb6⟩
    have B6:=LH (bthen B5.out hb6)
    have C6:=LH ((hb6.block _ (loh C5.out)).trans C5.out)
    obtain ⟨⟨y0,y1,y2,y3⟩,z0,z1,z2,z3⟩:=four C6.out
    have hH:w.heap.size<w6.heap.size:=loh C6.out
    clear hb6 k0 k1 k2 k3 g0 g1 g2 g3 r0 r0f HRt
    by_cases h0:rs=0
    ·subst h0
     obtain rfl:out=(⟨lab,colon,[],[]⟩,0):=HRS.out.symm.trans (if_neg (by simp))
     clear HRS
     go_wp2_with fail
     exact bodyPost_ret (v:=.tuple #[.agg #[.string ⟨lab.toArray⟩,.bool colon,.string ⟨#[]⟩,.slice none 0 0],.int .i64 0]) (by simp [results,Tryz.results31,go_sem,y0,y1,y2,y3]) rfl ⟨_,rfl,ArAt.nil _ _,bset4 B6.out (Nat.le_refl _) _ _ _ _⟩
    ·have e1:((rs:Int) != 0)=true:=by rw [bne_iff_ne];omega
     obtain rfl:out=(st0,rs):=HRS.out.symm.trans (if_pos h0)
     clear HRS h0
     go_wp2_with fail
     exact bodyPost_ret (v:=.tuple #[.agg #[.string ⟨#[]⟩,.bool false,.string ⟨#[]⟩,.slice none 0 0],.int .i64 rs]) (by simp [results,Tryz.results31,go_sem,y0,y1,y2,y3]) rfl ⟨_,rfl,ArAt.nil _ _,bset4 B6.out (Nat.le_refl _) _ _ _ _⟩
   ·have h1:0<r.length:=List.length_pos_iff.2 hr0
    have h1':(0:Int)<(r.length:Int):=by omega
    have HB:=LH (show bodyS d lab colon r=out from HO1.out)
    unfold bodyS at HB
    rw [if_neg hr0] at HB
    have HNm:=LH (tname_any r 0 (by omega) _ wh (X5.out.rd.more (Nat.le_of_lt (loh R5.out))))
    rw [show nameT r (0:Int).toNat=nameT r 0 from rfl] at HNm
    clear HO1 hr0
    go_wp2_with fail
    refine HNm.out.mono ?_
    rintro e w4 ⟨rfl,rfl⟩
    clear HNm
    cases hn:nameT r 0 with
    | false=>
     rw [hn] at HB
     obtain rfl:out=(st0,2):=HB.out.symm.trans (if_pos rfl)
     clear hn HB
     go_wp2_with fail
     exact bodyPost_ret (v:=.tuple #[.agg #[.string ⟨#[]⟩,.bool false,.string ⟨#[]⟩,.slice none 0 0],.int .i64 2]) (by simp [results,Tryz.results31,go_sem,k0,k1,k2,k3]) rfl ⟨_,rfl,ArAt.nil _ _,bset4 B5.out (Nat.le_refl _) _ _ _ _⟩
    | true=>
     rw [hn,if_neg (by simp)] at HB
     obtain ⟨g,o,rfl,hgl,c0,c1,c2⟩:=X5.out.rd.tok 0 h1
     rw [← getD_get r 0 h1] at c0 c1 c2
     simp only [Nat.zero_mul,Nat.add_zero] at c0 c1 c2
     have hop:=getD_small okr 0
     have B7:=LH (B5.out.setCell (p:=⟨w.heap.size,2,none⟩) (Nat.le_refl _) (.string ⟨(r.getD 0 tok0).2.1.toArray⟩))
     have C7:=LH (heap_set (i:=2) (.string ⟨(r.getD 0 tok0).2.1.toArray⟩) C5.out)
     have X7:=LH ((X5.out.keep (w':=wh.setCell ⟨w.heap.size,2,none⟩ (.string ⟨(r.getD 0 tok0).2.1.toArray⟩)) fun p hp _=>World.cell?_of_block (Below.heap_setCell _ _ _ p.block (by simp;omega))).drop 1 3 rfl h1)
     have HCut:=LH (cut_any [44] (r.drop 1) _ _ (X7.out.rd.more (B':=(wh.setCell ⟨w.heap.size,2,none⟩ (.string ⟨(r.getD 0 tok0).2.1.toArray⟩)).heap.size) (by simpa using Nat.le_of_lt (loh R5.out))) (by simp;omega))
     have hps:=LH (cutL_ok [44] _ (okr.drop 1))
     have hps2:=LH (cutL_short [44] (r.drop 1))
     generalize (r.getD 0 tok0).2.1=op at *
     generalize cutL [44] (r.drop 1)=ps at *
     have hr1:1<=r.length:=h1
     clear hn X7
     go_upto_region 15 with (fail)
     go_cut [8] (fun v6 wx=>CutW (wh.setCell ⟨w.heap.size,2,none⟩ (.string ⟨op.toArray⟩)) ps v6 wx)
     case first=>
      go_wp2_with fail
      all_goals (
       have h2:=HCut.out
       first | rw [if_neg h] at h2 | simp only [h,if_true,Nat.sub_self] at h2
       refine h2.mono ?_
       rintro e w6 ⟨v6,vs,rfl,ho6,hp6,hb6⟩
       clear HCut h2
       have HW6:=LH (show CutW (wh.setCell ⟨w.heap.size,2,none⟩ (.string ⟨op.toArray⟩)) ps v6 w6 from ⟨vs,ho6,hp6,hb6⟩)
       clear ho6 hp6 hb6
       go_wp2_with fail
       go_meet
       exact HW6.out)
     case rest=>
      clear HCut R5 X5 k0 k1 k2 k3 g0 g1 g2 g3 r0 r0f c0 c1 c2 HF okr
      obtain ⟨vs,ho6,hp6,hb6⟩:=hcut
      obtain ⟨w6,rfl⟩:∃ x:World,x=wc:=⟨_,rfl⟩
      have hlt7:w.heap.size<(wh.setCell ⟨w.heap.size,2,none⟩ (.string ⟨op.toArray⟩)).heap.size:=loh C7.out
      have B8:=LH (B7.out.trans (hb6.mono (Nat.le_of_lt hlt7)))
      have C8:Hid (w6.heap[w.heap.size]? = some (stBox lab colon op (.slice none 0 0))):=LH ((hb6.block _ hlt7).trans C7.out)
      obtain ⟨A6,c6,rfl,hc6,hm6,hrow6⟩:=own_slice ho6 (by omega)
      unfold maxLen at hm6
      have HROW:Hid (0<ps.length->∃ g,A6=some ⟨g,0,none⟩/\w.heap.size<g/\g<w6.heap.size/\∀ j u,vs[j]? = some u->w6.cell? ⟨g,j,none⟩=some u):=LH (fun h=>by obtain ⟨g,h1,h2,h3,_,h5⟩:=hrow6 h;exact ⟨g,h1,Nat.lt_of_lt_of_le hlt7 h2,h3,h5⟩)
      have HP6:=LH hp6
      have HPR:=LH (args_fit d op ps hps.out [] (fun a ha=>by simp at ha))
      clear ho6 hp6 hb6 hrow6 C7 B7 hlt7 hgl hc h1 h1' hr1
      by_cases h32:32<ps.length
      ·obtain rfl:out=(st0,11):=HB.out.symm.trans (if_pos h32)
       have h32':(32:Int)<(ps.length:Int):=by omega
       obtain ⟨⟨k0,k1,k2,k3⟩,g0,g1,g2,g3⟩:=four C8.out
       clear HB
       go_wp2_with fail
       exact bodyPost_ret (v:=.tuple #[.agg #[.string ⟨#[]⟩,.bool false,.string ⟨#[]⟩,.slice none 0 0],.int .i64 11]) (by simp [results,Tryz.results31,go_sem,k0,k1,k2,k3]) rfl ⟨_,rfl,ArAt.nil _ _,bset4 B8.out (Nat.le_refl _) _ _ _ _⟩
      ·rw [if_neg h32] at HB
       have h32':decide ((32:Int)<(ps.length:Int))=false:=by simp;omega
       have HARG:Hid (argsL d op (ps.drop 0) []=argsL d op ps []):=LH rfl
       generalize argsL d op ps []=R at *
       go_wp2_with fail
       go_loopw [102] (fun i wr=>∃ k:Nat,k<=ps.length/\i=.int .i64 k/\ParseR w w6 d lab colon op ps R k wr) (fun i _=>ps.length - (intOf i).toNat)
       case atStart=>exact ⟨0,Nat.zero_le _,rfl,[],.slice none 0 0,[],rfl,HARG.out,B8.out,C8.out,OwnV.nil _ _,But.refl _ _ _⟩
       case round=>
        obtain ⟨k,hk,rfl,acc,v,us,hal,harg,hbw,hC,hown,hbut⟩:=hrel
        have HAL:=LH hal
        have HARG2:=LH harg
        have BW:=LH hbw
        have CW:=LH hC
        have OW:=LH hown
        have BU:=LH hbut
        clear hal harg hbw hC hown hbut HARG
        obtain ⟨⟨k0,k1,k2,k3⟩,g0,g1,g2,g3⟩:=four CW.out
        have hBr:w.heap.size<wr.heap.size:=loh CW.out
        by_cases hlt:k<ps.length
        ·have hkv:k<vs.length:=by rw [HP6.out.1];exact hlt
         obtain ⟨g6,rfl,q1,q2,q4⟩:=HROW.out (by omega)
         obtain ⟨⟨base,hob⟩,_⟩:=HP6.out.2 k vs[k] ps[k] (List.getElem?_eq_getElem hkv) (List.getElem?_eq_getElem hlt)
         have c6k:wr.cell? ⟨g6,k,none⟩=some vs[k]:=(World.cell?_of_block (w:=w6) (BU.out.2 g6 q2 (by omega))).trans (q4 k _ (List.getElem?_eq_getElem hkv))
         have hrd:=own_rd_but hob C8.out BU.out
         have hpl:ps[k].length<=900:=by have:=hps2.out ps[k] (List.getElem_mem hlt);simp at this;omega
         have HOp:=LH (opnd_any d op ps[k] vs[k] wr (hg.below BW.out) hpl (hps.out _ (List.getElem_mem hlt)) hrd)
         obtain ⟨pA,pc,hvk,hpc⟩:=hrd.form
         have HST:=LH ((argsL_step d op ps k hlt acc).symm.trans HARG2.out)
         rw [hvk] at c6k HOp
         generalize operandL d op ps[k]=res at *
         obtain ⟨a,ka⟩:=res
         generalize ps[k].length=pl at *
         clear hvk hob hrd q1 q4 HARG2
         obtain ⟨vA,vc,rfl,hvc,hvm,hvrow⟩:=own_slice OW.out.2.1 (by omega)
         have HVR:=LH hvrow
         clear hvrow
         go_wp2_with fail
         refine HOp.out.mono ?_
         rintro e w7 ⟨va,rfl,hsub,hb7⟩
         have C9:=LH ((hb7.block _ hBr).trans CW.out)
         have B9:=LH (BW.out.trans (hb7.mono (Nat.le_of_lt hBr)))
         have BE9:=LH hb7
         obtain ⟨sA,sc,rfl,hsc,hsm⟩:=hsub.form
         have SB:=LH hsub
         obtain ⟨⟨y0,y1,y2,y3⟩,z0,z1,z2,z3⟩:=four C9.out
         have hB7:w.heap.size<w7.heap.size:=loh C9.out
         clear hb7 hsub HOp k0 k1 k2 k3 g0 g1 g2 g3 c6k
         by_cases hka:ka=0
         ·subst hka
          have hac:acc.length<=32:=by have:=HAL.out;omega
          have hw6:w6.heap.size<=wr.heap.size:=BU.out.1
          have BE8:=LH ((BE9.out.alloc BE9.out.size (.cells (arCells a (.slice sA a.e.sub.length sc)).toArray 72)).alloc (Nat.le_trans BE9.out.size (by simp)) (.cells (arCells a (.slice sA a.e.sub.length sc)).toArray 72))
          have HO8:=LH (OwnV.keep arSub_keep OW.out BE8.out).2.1
          have HN8:=LH (rd_new (w7.alloc (.cells (arCells a (.slice sA a.e.sub.length sc)).toArray 72)) (w7.heap.size+1) (by simp) (arCells a (.slice sA a.e.sub.length sc)) 72)
          have HS8:=LH (show arSub ((w7.alloc (.cells (arCells a (.slice sA a.e.sub.length sc)).toArray 72)).alloc (.cells (arCells a (.slice sA a.e.sub.length sc)).toArray 72)) (fun g=>w6.heap.size<=g/\g<((w7.alloc (.cells (arCells a (.slice sA a.e.sub.length sc)).toArray 72)).alloc (.cells (arCells a (.slice sA a.e.sub.length sc)).toArray 72)).heap.size/\(Value.slice vA acc.length vc).ownBlock≠some g) (.slice sA a.e.sub.length sc) a from
           SubAt.keep SB.out (fun p hp=>(((Below.refl w7.heap.size w7).alloc (Nat.le_refl _) _).alloc (by simp) _).cell hp.2) (fun g hg=>⟨Nat.le_trans hw6 hg.1,by simp;omega,fun hh=>by have:=own_block_lt OW.out.2.1 g hh;omega⟩))
          have HST2:=LH ((if_neg (by simp)).symm.trans HST.out)
          have B8':=LH ((B9.out.alloc B9.out.size (.cells (arCells a (.slice sA a.e.sub.length sc)).toArray 72)).alloc (Nat.le_trans B9.out.size (by simp)) (.cells (arCells a (.slice sA a.e.sub.length sc)).toArray 72))
          have C8':=LH (((((Below.refl w7.heap.size w7).alloc (Nat.le_refl _) (.cells (arCells a (.slice sA a.e.sub.length sc)).toArray 72)).alloc (by simp) (.cells (arCells a (.slice sA a.e.sub.length sc)).toArray 72)).block _ hB7).trans C9.out)
          have hb8:w6.heap.size<=((w7.alloc (.cells (arCells a (.slice sA a.e.sub.length sc)).toArray 72)).alloc (.cells (arCells a (.slice sA a.e.sub.length sc)).toArray 72)).heap.size:=Nat.le_trans hw6 BE8.out.size
          have hBl:w.heap.size<w6.heap.size:=loh C8.out
          have hBw6:w.heap.size<=w6.heap.size:=Nat.le_of_lt hBl
          clear HST SB hvc hvm HVR
          go_wp2_with (at_builtin;refine wpList_append_to _ rfl (.tmp 120) (.tmp 122) 61 rfl w6.heap.size 72 _ 8 104 Tryz.underlying61 info_ar rfl (by omega) HO8.out rfl HN8.out rfl rfl (arCells_one a _ rfl) (by omega) (by omega) hb8 ?_;intro v9 w9 hown9 hbel9 hg9 hv9;obtain ⟨A9,c9,rfl,hc9,hm9,_⟩:=own_slice hown9 (by omega);have ON:=LH (OwnV.snoc arSub_keep OW.out BE8.out HS8.out hown9 hg9 hv9);have B10:=LH (B8'.out.trans (hbel9.mono hBw6));have C10:=LH ((hbel9.block _ hBl).trans C8'.out);have BU10:=LH ((BU.out.bel (BE8.out.mono hw6)).bel hbel9);obtain ⟨⟨x0,x1,x2,x3⟩,f0,f1,f2,f3⟩:=four C10.out;have hB9:=loh C10.out;clear hown9 hbel9 hg9 hv9 y0 y1 y2 y3 z0 z1 z2 z3 HO8 HN8 HS8 BE8 B8' C8' hb8)
          go_roundw
          case rel=>exact ⟨k+1,by omega,by go_num,acc++[a],_,_,by simp [HAL.out],HST2.out,B10.out.setCell (Nat.le_refl _) _,heap_set (i:=3) _ C10.out,OwnV.set arSub_keep ON.out hBl,BU10.out.set 3 _⟩
          case measure=>simp [intOf];omega
         ·have e1:((ka:Int) != 0)=true:=by rw [bne_iff_ne];omega
          obtain rfl:R=([],ka):=HST.out.symm.trans (if_pos hka)
          obtain rfl:out=(st0,ka):=HB.out.symm.trans (if_pos hka)
          clear HB HST hka
          go_wp2_with fail
          exact bodyPost_ret (v:=.tuple #[.agg #[.string ⟨#[]⟩,.bool false,.string ⟨#[]⟩,.slice none 0 0],.int .i64 ka]) (by simp [results,Tryz.results31,go_sem,y0,y1,y2,y3,hB7]) rfl ⟨_,rfl,ArAt.nil _ _,(bset4 B9.out (Nat.le_refl _) _ _ _ _).alloc (by simpa using B9.out.size) _⟩
        ·obtain rfl:k=ps.length:=by omega
         have hbl:w.heap.size<w6.heap.size:=loh C8.out
         have hR:=HARG2.out
         rw [List.drop_length] at hR
         obtain rfl:R=(acc,0):=hR.symm
         have hAA:=OwnV.arAt OW.out
         obtain ⟨vA,vc,rfl,hvc,hvm⟩:=hAA.form
         have HAA:=LH hAA
         have HRt:=LH (Right12_any d ⟨lab,colon,op,acc⟩ (.slice vA acc.length vc) wr (hg.below BW.out) ⟨fl,hop,HPR.out⟩ (hAA.keep (fun _ _=>rfl) (fun g hg=>hg.2)))
         have HRS:=LH ((if_neg (by simp)).symm.trans HB.out)
         have hres:=HRS.out
         unfold endS at hres
         replace HRS:=LH hres
         generalize rightS d ⟨lab,colon,op,acc⟩=rs at *
         clear hres hR HB HARG2 OW BU HROW HP6 HPR hAA
         go_wp2_with fail
         refine HRt.out.mono ?_
         rintro e w9 ⟨rfl,hb9⟩
         have B9:=LH (BW.out.trans (hb9.mono (Nat.le_of_lt hBr)))
         have C9:=LH ((hb9.block _ hBr).trans CW.out)
         have A9:=LH (HAA.out.keep (w':=w9) (fun _ hp=>hb9.cell hp.2) (S':=fun g=>w.heap.size<g/\g<w9.heap.size) (fun g hg=>⟨Nat.lt_of_lt_of_le hbl hg.1,Nat.lt_of_lt_of_le hg.2 hb9.size⟩))
         obtain ⟨⟨y0,y1,y2,y3⟩,z0,z1,z2,z3⟩:=four C9.out
         have hH:w.heap.size<w9.heap.size:=loh C9.out
         clear hb9 k0 k1 k2 k3 g0 g1 g2 g3 HRt HAA
         by_cases h0:rs=0
         ·subst h0
          obtain rfl:out=(⟨lab,colon,op,acc⟩,0):=HRS.out.symm.trans (if_neg (by simp))
          clear HRS
          go_wp2_with fail
          exact bodyPost_ret (v:=.tuple #[.agg #[.string ⟨lab.toArray⟩,.bool colon,.string ⟨op.toArray⟩,.slice vA acc.length vc],.int .i64 0]) (by simp [results,Tryz.results31,go_sem,y0,y1,y2,y3]) rfl ⟨_,rfl,(A9.out.set4 (b:=w.heap.size) (fun g hg=>by omega) _ _ _ _).keep (fun _ _=>rfl) (fun g hg=>⟨by omega,by simpa using hg.2⟩),bset4 B9.out (Nat.le_refl _) _ _ _ _⟩
         ·have e1:((rs:Int) != 0)=true:=by rw [bne_iff_ne];omega
          obtain rfl:out=(st0,rs):=HRS.out.symm.trans (if_pos h0)
          clear HRS h0
          go_wp2_with fail
          exact bodyPost_ret (v:=.tuple #[.agg #[.string ⟨#[]⟩,.bool false,.string ⟨#[]⟩,.slice none 0 0],.int .i64 rs]) (by simp [results,Tryz.results31,go_sem,y0,y1,y2,y3]) rfl ⟨_,rfl,ArAt.nil _ _,bset4 B9.out (Nat.le_refl _) _ _ _ _⟩
 ·have hk1:((k:Int) != 0)=true:=by rw [bne_iff_ne];omega
  obtain rfl:out=(st0,k):=HO.out.symm.trans (if_pos (by simpa using hk0))
  obtain ⟨⟨k0,k1,k2,k3⟩,g0,g1,g2,g3⟩  :=four C2.out
  have hH:w.heap.size<w2.heap.size:=loh C2.out
  clear hk0 HO
  go_wp2_with fail
  exact bodyPost_ret (v:=.tuple #[.agg #[.string ⟨#[]⟩,.bool false,.string ⟨#[]⟩,.slice none 0 0],.int .i64 k]) (by simp [results,Tryz.results31,go_sem,k0,k1,k2,k3]) rfl ⟨_,rfl,ArAt.nil _ _,(((B2.out.setCell (Nat.le_refl _) _).setCell (Nat.le_refl _) _).setCell (Nat.le_refl _) _).setCell (Nat.le_refl _) _⟩
theorem parse12_any (d:Int) (s:List UInt8) (w:World) (hg:GWL w) (hl:s.length<=1000000):Calls Tryz.prog 31 #[.int .i64 d,.string ⟨s.toArray⟩] w (Parse12P w (parseS d s)):=by
 cases hk:knownB d with
 | false=>
  have:parseS d s=(st0,1):=by unfold parseS;rw [if_pos hk]
  rw [this]
  exact parse12_u d s w hk
 | true=>exact parse12_k d s w hg hk hl _ rfl
theorem join_wide (xs:List (List UInt8)) (sep:List UInt8) (v:Value) (w:World) (hr:Rd w w.heap.size v xs.length (xs.map strV)) (hl:xs.length<=1000000) (hlen:(sep.intercalate xs).length<=100000000000000) :
  Calls Tryz.prog 53 #[v,.string ⟨sep.toArray⟩] w fun e w'=>e=.returned (.string ⟨(sep.intercalate xs).toArray⟩)/\Below w.heap.size w w':=by
 obtain ⟨A,c,rfl,hc,h3⟩:=hr
 by_cases h0:xs = []
 ·subst h0
  refine (Tryz.strings_Join_none A c ⟨sep.toArray⟩ w).mono ?_
  rintro e w1 ⟨rfl,rfl⟩
  exact ⟨rfl,Below.refl _ _⟩
 ·have h0':0<xs.length:=List.length_pos_iff.mpr h0
  obtain ⟨g,o,rfl,hg,hcells⟩:=h3 h0'
  have e1:(xs.map fun t=>(⟨t.toArray⟩:ByteArray)).map (·.data.toList)=xs:=by rw [List.map_map];exact List.map_id xs
  have hj:=Tryz.strings_Join g o c (xs.map fun t=>⟨t.toArray⟩) ⟨sep.toArray⟩ w (fun j x hx=>by
   refine hcells j (.string x) ?_
   rw [List.getElem?_map] at hx ⊢
   cases hq:xs[j]? with
   | none=>rw [hq] at hx;simp at hx
   | some y=>rw [hq] at hx;simp at hx;simp [strV,hx]) hg (by simp;omega) (by simpa using hc) (by
   rw [e1]
   show (sep.intercalate xs).length<=_
   omega)
  rw [e1,List.length_map] at hj
  exact hj
theorem showK_len (e:Ex) (hf:fitE e=true):(showK e).length<=600000000:=by
 unfold showK
 split
 ·exact show_len9 e 24 (by omega) (by assumption) hf 1
 ·simp
theorem showA_len (d:Int) (a:Ar) (hf:fitA a):(showA d a).length<=600000010:=by
 obtain ⟨h1,h2,h3⟩:=hf
 have h4:=showK_len a.e h3
 have h5:(quoteL a.t).length<=1000000:=by have:=(dbl_length a.t).2;unfold quoteL;simp;omega
 unfold showK at h4
 unfold showA
 split
 ·omega
 ·split
  ·omega
  ·split
   ·simp;omega
   ·split
    ·simp;omega
    ·omega
theorem ashow_any (d:Int) (a:Ar) (v:Value) (w:World) (hg:GWL w) (hf:fitA a) (hs:SubAt w (· < w.heap.size) v a.e.sub) :
  Calls Tryz.prog 52 #[.int .i64 d,arV a v] w fun e w'=>e=.returned (.string ⟨(showA d a).toArray⟩)/\Below w.heap.size w w':=by
 have HQ:=LH (fun W (hW:GW W)=>quote_any a.t W hW (Nat.le_trans hf.2.1 (by omega)))
 have HE:=LH (fun W (hW:Below w.heap.size w W)=>Show_any a.e v W hf.2.2 (hg.below hW).2 (hs.at hW hW.size))
 have HR:Hid (showA d a=if a.w≠[] then a.w else if a.is then quoteL a.t else if a.mem=true/\d=2 then [91]++showK a.e++[93] else if a.mem=true then [40]++showK a.e++[41] else showK a.e):=LH rfl
 have hkl:=showK_len a.e hf.2.2
 obtain ⟨A,c,rfl,hc,hm⟩:=hs.form
 have B0:=LH (fun o=>(Below.refl w.heap.size w).alloc (Nat.le_refl _) o)
 have G0:=LH (fun o=>(hg.below (B0.out o)).2)
 generalize showA d a=res at *
 generalize showK a.e=sk at *
 generalize rightK a.e=rk at *
 obtain ⟨aw,at1,ais,amem,⟨eo,en,em,es⟩⟩:=a
 unfold arV
 simp only [Ex.op,Ex.n,Ex.name,Ex.sub] at *
 generalize es.length=sl at *
 generalize quoteL at1=qt at *
 have n1:¬ 9223372036854775807<1+sk.length:=by omega
 have n2:¬ 9223372036854775807<sk.length+1+1:=by omega
 have n3:¬ 9223372036854775807<1+sk.length+1:=by omega
 clear hs hf hg hc hm
 by_cases h1:aw = []
 ·subst h1
  cases ais with
  | true=>
   have HR':=LH (HR.out.trans ((if_neg (by simp)).trans (if_pos rfl)))
   clear HR
   go_enter Tryz.func52, Tryz.ntmps52
   go_wp2_with fail
   refine (HQ.out _ (G0.out _)).mono ?_
   rintro e w2 ⟨rfl,hb2⟩
   go_wp2_with fail
   go_ret
   rw [HR'.out]
   exact ⟨rfl,bthen (B0.out _) hb2⟩
  | false=>
   have HR2:=LH (HR.out.trans ((if_neg (by simp)).trans (if_neg (by simp))))
   clear HR
   cases amem with
   | false=>
    have HR':=LH (HR2.out.trans ((if_neg (by simp)).trans (if_neg (by simp))))
    clear HR2
    go_enter Tryz.func52, Tryz.ntmps52
    go_wp2_with fail
    refine (HE.out _ (B0.out _)).mono ?_
    rintro e w2 ⟨rfl,hb2⟩
    obtain ⟨hcc,hff⟩:=bcell hb2
    have B2:=LH (bthen (B0.out _) hb2)
    clear hb2
    go_wp2_with fail
    go_ret
    rw [HR'.out]
    exact ⟨rfl,B2.out⟩
   | true=>
    by_cases h2:d=2
    ·subst h2
     have HR':=LH (HR2.out.trans (if_pos (by simp)))
     clear HR2
     go_enter Tryz.func52, Tryz.ntmps52
     go_wp2_with fail
     refine (HE.out _ (B0.out _)).mono ?_
     rintro e w2 ⟨rfl,hb2⟩
     obtain ⟨hcc,hff⟩:=bcell hb2
     have B2:=LH (bthen (B0.out _) hb2)
     clear hb2
     go_wp2_with fail
     go_ret
     rw [HR'.out]
     exact ⟨rfl,B2.out⟩
    ·have HR':=LH (HR2.out.trans ((if_neg (by simp [h2])).trans (if_pos rfl)))
     have e2:(d == 2)=false:=by simpa using h2
     clear HR2 h2
     go_enter Tryz.func52, Tryz.ntmps52
     go_wp2_with fail
     refine (HE.out _ (B0.out _)).mono ?_
     rintro e w2 ⟨rfl,hb2⟩
     obtain ⟨hcc,hff⟩:=bcell hb2
     have B2:=LH (bthen (B0.out _) hb2)
     clear hb2
     go_wp2_with fail
     go_ret
     rw [HR'.out]
     exact ⟨rfl,B2.out⟩
 ·have HR':=LH (HR.out.trans (if_pos h1))
  have e1:(!aw.isEmpty)=true:=by simpa using h1
  clear HR h1
  go_enter Tryz.func52, Tryz.ntmps52
  go_wp2_with fail
  go_ret
  rw [HR'.out]
  exact ⟨rfl,B0.out _⟩
def WordsAt (w:World) (b B:Nat) (l:List (List UInt8)):Prop:=∃ v,w.heap[b]? = some (.cells #[v] 103 (0,0))/\w.ownsRow B 9 1 v l.length (l.map strV)
theorem WordsAt.bel {w w':World} {b B:Nat} {l:List (List UInt8)} (h:WordsAt w b B l) (hb:Below w.heap.size w w'):WordsAt w' b B l:=by
 obtain ⟨v,h1,h2⟩:=h
 refine ⟨v,(hb.block _ (loh h1)).trans h1,h2.1,?_⟩
 rcases h2.2 with h3 | ⟨g,cap,cur,e,h4,h5,h6⟩
 ·exact .inl h3
 ·exact .inr ⟨g,cap,cur,e,h4,(hb.block g (loh h5)).trans h5,h6⟩
theorem own_but {w w':World} {base b n size:Nat} {e:TypeId} {v:Value} {xs:List Value} (h:w.ownsRow base e size v n xs) (hlt:b<base) (hb:But w.heap.size b w w'):w'.ownsRow base e size v n xs:=by
 refine ⟨h.1,?_⟩
 rcases h.2 with h3 | ⟨g,cap,cur,e,h4,h5,h6⟩
 ·exact .inl h3
 ·exact .inr ⟨g,cap,cur,e,h4,(hb.2 g (loh h5) (by omega)).trans h5,h6⟩
theorem addw_any (x:List UInt8) (b B:Nat) (l:List (List UInt8)) (w:World) (hl:l.length<=100) (hbB:b<B) (hB:B<=w.heap.size) (h:WordsAt w b B l) :
  Calls Tryz.prog 51 #[.string ⟨x.toArray⟩,.pointer (some ⟨b,0,none⟩)] w fun e w'=>e=.returned (.tuple #[])/\WordsAt w' b B (if x = [] then l else l++[x])/\Below b w w'/\But B b w w':=by
 obtain ⟨v,h1,h2⟩:=h
 have H1:=LH h1
 have H2:=LH h2
 obtain ⟨A,c,rfl,hc,hm,_⟩:=own_slice h2 (by omega)
 have hb:=loh h1
 have k0:=coh (i:=0) h1
 have f0:=foh (i:=0) h1
 simp at k0 f0
 clear h1 h2
 by_cases hx:x = []
 ·subst hx
  go_enter Tryz.func51, Tryz.ntmps51
  go_wp2_with fail
  go_end0
  exact ⟨rfl,⟨_,H1.out,H2.out⟩,Below.refl _ _,But.refl _ _ _⟩
 ·rw [if_neg hx]
  have e1:(!x.isEmpty)=true:=by simpa using hx
  have HO:=LH (H2.out.alloc (.cells #[.string ⟨x.toArray⟩] 9))
  have HN:=LH (Rd.new w [.string ⟨x.toArray⟩] 9)
  have HC:=LH ((((Below.refl w.heap.size w).alloc (Nat.le_refl _) (.cells #[.string ⟨x.toArray⟩] 9)).block _ hb).trans H1.out)
  clear hx hm
  go_enter Tryz.func51, Tryz.ntmps51
  go_wp2_with (at_builtin;refine wpList_append_to _ rfl (.tmp 5) (.tmp 7) 103 rfl B 9 _ 1 16 Tryz.underlying103 info_str rfl (by omega) HO.out rfl HN.out rfl rfl (fun u hu=>by simp at hu;subst hu;rfl) (by omega) (by omega) (by simp;omega) ?_;intro v9 w9 hown9 hbel9 hg9 hv9;obtain ⟨A9,c9,rfl,hc9,hm9,_⟩:=own_slice hown9 (by omega);have H9:=LH hown9;have B9:=LH hbel9;have C9:=LH ((hbel9.block _ hbB).trans HC.out);have k9:=coh (i:=0) C9.out;have f9:=foh (i:=0) C9.out;simp at k9 f9;clear hown9 hbel9 hg9 hv9 k0 f0)
  go_end0
  have hB9:Below B w w9:=((Below.refl B w).alloc hB _).trans B9.out
  refine ⟨rfl,⟨_,heap_set (i:=0) _ C9.out,?_⟩,(hB9.mono (Nat.le_of_lt hbB)).setCell (Nat.le_refl _) _,((But.refl B b w).bel hB9).set 0 _⟩
  have:=ownsRow_setCell_below H9.out (a:=⟨b,0,none⟩) hbB (.slice A9 (l.length+1) c9)
  simpa [strV] using this
theorem inter_len (c:UInt8) (M:Nat):∀ l:List (List UInt8),(∀ x∈l,x.length<=M)->([c].intercalate l).length<=(M+1) * l.length:=by
 intro l
 induction l with
 | nil=>intro _;simp [List.intercalate]
 | cons a r ih=>
  intro h
  cases r with
  | nil=>
   rw [inter_one]
   have:=h a (by simp)
   simp;omega
  | cons b r=>
   rw [inter_cons]
   have h1:=ih (fun x hx=>h x (by simp [hx]))
   have h2:=h a (by simp)
   simp only [List.length_append,List.length_cons,Nat.mul_add,Nat.add_mul,Nat.mul_one,Nat.one_mul] at *
   omega
theorem filt3 (a b c:List UInt8):(if c = [] then (if b = [] then (if a = [] then ([]:List (List UInt8)) else []++[a]) else (if a = [] then ([]:List (List UInt8)) else []++[a])++[b]) else (if b = [] then (if a = [] then ([]:List (List UInt8)) else []++[a]) else (if a = [] then ([]:List (List UInt8)) else []++[a])++[b])++[c]) = [a,b,c].filter (fun x=>!x.isEmpty):=by
 by_cases ha:a = [] <;> by_cases hb:b = [] <;> by_cases hc:c = [] <;> simp [ha,hb,hc]
theorem labS_len (s:St):(labS s).length<=s.label.length+1:=by unfold labS;split <;> simp
theorem show12_any (d:Int) (s:St) (v:Value) (w:World) (hg:GWL w) (hf:fitS s) (hs:ArAt w (· < w.heap.size) v s.args) :
  Calls Tryz.prog 19 #[.int .i64 d,stV s v] w fun e w'=>e=.returned (.tuple #[.string ⟨(showS d s).1.toArray⟩,.int .i64 (showS d s).2])/\Below w.heap.size w w':=by
 have HR:=LH (fun W (hW:Below w.heap.size w W)=>Right12_any d s v W (hg.below hW) hf (hs.at hW hW.size))
 have HS:=LH (fun W (hW:Below w.heap.size w W)=>hs.at hW hW.size)
 have HRES:Hid (showS d s=if rightS d s≠0 then ([],rightS d s) else if 200<(textS d s).length then ([],11) else (textS d s,0)):=LH rfl
 have HFA:=LH hf.2.2
 have HLen:Hid (rightS d s=0->s.args.length<=32):=LH (fun h=>(rightS.form h).few)
 have hll:=hf.1
 have hol:=hf.2.1
 obtain ⟨A,c,rfl,hc,hm⟩:=hs.form
 have HT:Hid (textS d s = [32].intercalate ([labS s,s.op,[44].intercalate (s.args.map (showA d))].filter (fun x=>!x.isEmpty))):=LH rfl
 have HL:Hid (labS s=if s.colon then s.label++[58] else s.label):=LH rfl
 have hlb:=labS_len s
 generalize showS d s=res at *
 generalize textS d s=txt at *
 generalize rightS d s=rs at *
 generalize labS s=lb at *
 obtain ⟨lab,colon,op,args⟩:=s
 unfold stV
 simp only at *
 have B0:=LH (fun o=>(Below.refl w.heap.size w).alloc (Nat.le_refl _) o)
 clear hs hf
 by_cases hr:rs=0
 ·subst hr
  have HR2:=LH ((if_neg (by simp)).symm.trans HRES.out.symm)
  have hn:=HLen.out rfl
  clear HRES HLen hm
  go_enter Tryz.func19, Tryz.ntmps19
  go_wp2_with fail
  refine (HR.out _ (B0.out _)).mono ?_
  rintro e w2 ⟨rfl,hb2⟩
  have B2:=LH (bthen (B0.out _) hb2)
  have C2:=LH ((hb2.block w.heap.size (by simp)).trans (heap_alloc_new w _))
  obtain ⟨⟨k0,k1,k2,k3⟩,_,_,_,_⟩:=four C2.out
  have hH:w.heap.size<w2.heap.size:=loh C2.out
  have n1:¬ 9223372036854775807<lab.length+1:=by omega
  have W3:=LH (show WordsAt (w2.alloc (.cells #[.slice none 0 0] 103)) w2.heap.size (w2.heap.size+1) [] from ⟨_,heap_alloc_new w2 _,⟨rfl,.inl ⟨rfl,rfl⟩⟩⟩)
  have B3:=LH (B2.out.alloc B2.out.size (.cells #[.slice none 0 0] 103))
  have C3:=LH (((((Below.refl w2.heap.size w2).alloc (Nat.le_refl _) (.cells #[.slice none 0 0] 103))).block _ hH).trans C2.out)
  clear hb2 B2 C2
  cases colon with
  | true=>
   go_wp2_with fail
   go_loopw [8,30] (fun v8 i wr=>∃ k:Nat,k<=args.length/\i=.int .i64 k/\wr.ownsRow (w2.heap.size+1) 9 1 v8 k (((args.take k).map (showA d)).map strV)/\Below (w2.heap.size+1) (w2.alloc (.cells #[.slice none 0 0] 103)) wr) (fun _ i _=>args.length - (intOf i).toNat)
   case atStart=>exact ⟨0,Nat.zero_le _,rfl,⟨by simp,.inl ⟨rfl,rfl⟩⟩,Below.refl _ _⟩
   case round=>
    obtain ⟨k,hk,rfl,ho8,hb8⟩:=hrel
    have O8:=LH ho8
    have B8:=LH hb8
    have BW:=LH (B3.out.trans (hb8.mono (by omega)))
    have hsz:w2.heap.size+1<=wr.heap.size:=by have:=hb8.size;simpa using this
    obtain ⟨A8,c8,rfl,hc8,hm8,_⟩:=own_slice ho8 (by omega)
    clear ho8 hb8
    by_cases hlt:k<args.length
    ·obtain ⟨g,o,vk,hA,hgl,c0,c1,c2,c3,c4,c5,c6,c7,hsub⟩:=(HS.out wr BW.out).get k hlt
     subst hA
     obtain ⟨sA,sc,rfl,hsc,hsm⟩:=hsub.form
     have HA:=LH (fun o=>ashow_any d args[k] _ (wr.alloc o) (hg.below (BW.out.alloc BW.out.size o)) (HFA.out _ (List.getElem_mem hlt)) (hsub.at ((Below.refl _ _).alloc (Nat.le_refl _) o) (by simp)))
     have HTK:=LH (show ((args.take (k+1)).map (showA d)).map strV=((args.take k).map (showA d)).map strV++[strV (showA d args[k])] by rw [List.take_succ_eq_append_getElem hlt,List.map_append,List.map_append];rfl)
     generalize showA d args[k]=st at *
     generalize args[k]=a at *
     clear hsub hsm hsc
     go_wp2_with fail
     refine (HA.out _).mono ?_
     rintro e w5 ⟨rfl,hb5⟩
     have B5:=LH (bthen ((Below.refl wr.heap.size wr).alloc (Nat.le_refl _) _) hb5)
     have O5:=LH (own_but (b:=w2.heap.size) O8.out (by omega) ((But.refl _ _ _).bel B5.out))
     have O6:=LH (O5.out.alloc (.cells #[.string ⟨st.toArray⟩] 9))
     have N6:=LH (Rd.new w5 [.string ⟨st.toArray⟩] 9)
     have h5:w2.heap.size+1<=w5.heap.size:=Nat.le_trans hsz B5.out.size
     have B6:=LH ((B8.out.trans (B5.out.mono hsz)).alloc h5 (.cells #[.string ⟨st.toArray⟩] 9))
     clear hb5 c0 c1 c2 c3 c4 c5 c6 c7 HA
     go_wp2_with (at_builtin;refine wpList_append_to _ rfl (.tmp 34) (.tmp 38) 103 rfl (w2.heap.size+1) 9 _ 1 16 Tryz.underlying103 info_str rfl (by omega) O6.out rfl N6.out rfl rfl (fun u hu=>by simp at hu;subst hu;rfl) (by omega) (by omega) (by simp;omega) ?_;intro v9 w9 hown9 hbel9 hg9 hv9;have O9:=LH hown9;have B9:=LH (B6.out.trans hbel9);clear hown9 hbel9 hg9 hv9)
     go_roundw
     case rel=>exact ⟨k+1,by omega,by go_num,by rw [HTK.out];exact O9.out,B9.out⟩
     case measure=>simp [intOf];omega
    ·obtain rfl:k=args.length:=by omega
     rw [List.take_length] at O8
     have hH2:w.heap.size<wr.heap.size:=Nat.lt_of_lt_of_le hH (Nat.le_trans (Nat.le_succ _) hsz)
     have C8:=LH ((B8.out.block w.heap.size (by omega)).trans C3.out)
     have W8:Hid (WordsAt wr w2.heap.size wr.heap.size []):=LH (by
      obtain ⟨v0,q1,q2⟩:=W3.out
      have hv0:v0=.slice none 0 0:=by
       have:=heap_alloc_new w2 (.cells #[.slice none 0 0] 103)
       rw [this] at q1
       injection q1 with q1
       injection q1 with q1
       simpa using q1.symm
      exact ⟨v0,(B8.out.block _ (Nat.lt_succ_self _)).trans q1,⟨rfl,.inl ⟨hv0,rfl⟩⟩⟩)
     have HJA:=LH (fun W (hW:But wr.heap.size w2.heap.size wr W)=>join_wide (args.map (showA d)) [44] _ W (by rw [List.length_map];exact Rd.of_own (own_but O8.out (by omega) hW)) (by simp;omega) (Nat.le_trans (inter_len 44 600000010 _ (fun x hx=>by obtain ⟨a,ha,rfl⟩:=List.mem_map.1 hx;exact showA_len d a (HFA.out a ha))) (by simp;omega)))
     have hjl:([44].intercalate (args.map (showA d))).length<=20000000000:=Nat.le_trans (inter_len 44 600000010 _ (fun x hx=>by obtain ⟨a,ha,rfl⟩:=List.mem_map.1 hx;exact showA_len d a (HFA.out a ha))) (by simp;omega)
     generalize [44].intercalate (args.map (showA d))=jn at *
     generalize args.map (showA d)=sh at *
     clear W3 HS HFA
     go_wp2_with fail
     refine (addw_any (lab++[58]) w2.heap.size wr.heap.size [] wr (by simp) (by omega) (Nat.le_refl _) W8.out).mono ?_
     rintro e w4 ⟨rfl,hw4,hb4,hbt4⟩
     have W4:=LH hw4
     have B4:=LH (BW.out.trans (hb4.mono (Nat.le_of_lt hH)))
     have BT4:=LH hbt4
     have C4:=LH ((hbt4.2 _ hH2 (by omega)).trans C8.out)
     have l1:(if (lab++[58]) = [] then ([]:List (List UInt8)) else []++[lab++[58]]).length<=1:=by split <;> simp
     obtain ⟨⟨y0,y1,y2,y3⟩,_,_,_,_⟩:=four C4.out
     have hs4:wr.heap.size<=w4.heap.size:=hbt4.1
     generalize hw1:(if (lab++[58]) = [] then ([]:List (List UInt8)) else []++[lab++[58]])=ws1 at *
     have E1:=LH hw1
     clear hw1
     clear hw4 hb4 hbt4 W8
     go_wp2_with fail
     refine (addw_any op w2.heap.size wr.heap.size ws1 w4 (by omega) (by omega) hs4 W4.out).mono ?_
     rintro e w6 ⟨rfl,hw6,hb6,hbt6⟩
     have W6:=LH hw6
     have B6:=LH (B4.out.trans (hb6.mono (Nat.le_of_lt hH)))
     have BT6:Hid (But wr.heap.size w2.heap.size wr w6):=LH ⟨Nat.le_trans hs4 hbt6.1,fun q h1 h2=>(hbt6.2 q h1 h2).trans (BT4.out.2 q h1 h2)⟩
     have l2:(if op = [] then ws1 else ws1++[op]).length<=2:=by split <;> (try simp) <;> omega
     generalize hw2:(if op = [] then ws1 else ws1++[op])=ws2 at *
     have E2:=LH hw2
     clear hw2
     clear hw6 hb6 hbt6 W4 y0 y1 y2 y3
     go_wp2_with fail
     refine (HJA.out w6 BT6.out).mono ?_
     rintro e w7 ⟨rfl,hb7⟩
     have W7:=LH (W6.out.bel hb7)
     have B7:=LH (bthen B6.out hb7)
     have hs7:wr.heap.size<=w7.heap.size:=Nat.le_trans BT6.out.1 hb7.size
     clear hb7 W6
     go_wp2_with fail
     refine (addw_any jn w2.heap.size wr.heap.size ws2 w7 (by omega) (by omega) hs7 W7.out).mono ?_
     rintro e w10 ⟨rfl,hw10,hb10,hbt10⟩
     have B10:=LH (B7.out.trans (hb10.mono (Nat.le_of_lt hH)))
     obtain ⟨vw,q1,q2⟩:=hw10
     have l3:(if jn = [] then ws2 else ws2++[jn]).length<=3:=by split <;> (try simp) <;> omega
     generalize hw3:(if jn = [] then ws2 else ws2++[jn])=ws3 at *
     have E3:Hid (ws3 = [lab++[58],op,jn].filter (fun x=>!x.isEmpty)):=LH (by rw [← hw3,← E2.out,← E1.out];exact filt3 _ _ _)
     have HM3:∀ x∈ws3,x.length<=20000000000:=by
      rw [E3.out]
      intro x hx
      have hx:=(List.mem_filter.1 hx).1
      simp only [List.mem_cons,List.not_mem_nil,or_false] at hx
      rcases hx with rfl | rfl | rfl
      ·simp;omega
      ·omega
      ·exact hjl
     have HJ3:=LH (join_wide ws3 [32] vw w10 (Rd.of_own q2) (by omega) (Nat.le_trans (inter_len 32 20000000000 ws3 HM3) (by omega)))
     have HTX:Hid ([32].intercalate ws3=txt):=LH (by rw [E3.out,HT.out];rw [HL.out];simp)
     rw [HTX.out] at HJ3
     obtain ⟨vA,vc,rfl,_,_,_⟩:=own_slice q2 (by omega)
     have k10:=coh (i:=0) q1
     simp at k10
     clear q1 q2 hw3 HM3 E1 E2 E3 HTX HJA O8
     go_wp2_with fail
     refine HJ3.out.mono ?_
     rintro e w11 ⟨rfl,hb11⟩
     have B11:=LH (bthen B10.out hb11)
     clear hb11 HJ3
     by_cases h200:200<txt.length
     ·obtain rfl:res=([],11):=HR2.out.symm.trans (if_pos h200)
      have h200':(200:Int)<(txt.length:Int):=by omega
      clear HR2
      go_wp2_with fail
      go_ret2
      exact ⟨rfl,B11.out⟩
     ·obtain rfl:res=(txt,0):=HR2.out.symm.trans (if_neg h200)
      have h200':decide ((200:Int)<(txt.length:Int))=false:=by simp;omega
      clear HR2
      go_wp2_with fail
      go_ret2
      exact ⟨rfl,B11.out⟩
  | false=>
   go_wp2_with fail
   go_loopw [8,30] (fun v8 i wr=>∃ k:Nat,k<=args.length/\i=.int .i64 k/\wr.ownsRow (w2.heap.size+1) 9 1 v8 k (((args.take k).map (showA d)).map strV)/\Below (w2.heap.size+1) (w2.alloc (.cells #[.slice none 0 0] 103)) wr) (fun _ i _=>args.length - (intOf i).toNat)
   case atStart=>exact ⟨0,Nat.zero_le _,rfl,⟨by simp,.inl ⟨rfl,rfl⟩⟩,Below.refl _ _⟩
   case round=>
    obtain ⟨k,hk,rfl,ho8,hb8⟩:=hrel
    have O8:=LH ho8
    have B8:=LH hb8
    have BW:=LH (B3.out.trans (hb8.mono (by omega)))
    have hsz:w2.heap.size+1<=wr.heap.size:=by have:=hb8.size;simpa using this
    obtain ⟨A8,c8,rfl,hc8,hm8,_⟩:=own_slice ho8 (by omega)
    clear ho8 hb8
    by_cases hlt:k<args.length
    ·obtain ⟨g,o,vk,hA,hgl,c0,c1,c2,c3,c4,c5,c6,c7,hsub⟩:=(HS.out wr BW.out).get k hlt
     subst hA
     obtain ⟨sA,sc,rfl,hsc,hsm⟩:=hsub.form
     have HA:=LH (fun o=>ashow_any d args[k] _ (wr.alloc o) (hg.below (BW.out.alloc BW.out.size o)) (HFA.out _ (List.getElem_mem hlt)) (hsub.at ((Below.refl _ _).alloc (Nat.le_refl _) o) (by simp)))
     have HTK:=LH (show ((args.take (k+1)).map (showA d)).map strV=((args.take k).map (showA d)).map strV++[strV (showA d args[k])] by rw [List.take_succ_eq_append_getElem hlt,List.map_append,List.map_append];rfl)
     generalize showA d args[k]=st at *
     generalize args[k]=a at *
     clear hsub hsm hsc
     go_wp2_with fail
     refine (HA.out _).mono ?_
     rintro e w5 ⟨rfl,hb5⟩
     have B5:=LH (bthen ((Below.refl wr.heap.size wr).alloc (Nat.le_refl _) _) hb5)
     have O5:=LH (own_but (b:=w2.heap.size) O8.out (by omega) ((But.refl _ _ _).bel B5.out))
     have O6:=LH (O5.out.alloc (.cells #[.string ⟨st.toArray⟩] 9))
     have N6:=LH (Rd.new w5 [.string ⟨st.toArray⟩] 9)
     have h5:w2.heap.size+1<=w5.heap.size:=Nat.le_trans hsz B5.out.size
     have B6:=LH ((B8.out.trans (B5.out.mono hsz)).alloc h5 (.cells #[.string ⟨st.toArray⟩] 9))
     clear hb5 c0 c1 c2 c3 c4 c5 c6 c7 HA
     go_wp2_with (at_builtin;refine wpList_append_to _ rfl (.tmp 34) (.tmp 38) 103 rfl (w2.heap.size+1) 9 _ 1 16 Tryz.underlying103 info_str rfl (by omega) O6.out rfl N6.out rfl rfl (fun u hu=>by simp at hu;subst hu;rfl) (by omega) (by omega) (by simp;omega) ?_;intro v9 w9 hown9 hbel9 hg9 hv9;have O9:=LH hown9;have B9:=LH (B6.out.trans hbel9);clear hown9 hbel9 hg9 hv9)
     go_roundw
     case rel=>exact ⟨k+1,by omega,by go_num,by rw [HTK.out];exact O9.out,B9.out⟩
     case measure=>simp [intOf];omega
    ·obtain rfl:k=args.length:=by omega
     rw [List.take_length] at O8
     have hH2:w.heap.size<wr.heap.size:=Nat.lt_of_lt_of_le hH (Nat.le_trans (Nat.le_succ _) hsz)
     have C8:=LH ((B8.out.block w.heap.size (by omega)).trans C3.out)
     have W8:Hid (WordsAt wr w2.heap.size wr.heap.size []):=LH (by
      obtain ⟨v0,q1,q2⟩:=W3.out
      have hv0:v0=.slice none 0 0:=by
       have:=heap_alloc_new w2 (.cells #[.slice none 0 0] 103)
       rw [this] at q1
       injection q1 with q1
       injection q1 with q1
       simpa using q1.symm
      exact ⟨v0,(B8.out.block _ (Nat.lt_succ_self _)).trans q1,⟨rfl,.inl ⟨hv0,rfl⟩⟩⟩)
     have HJA:=LH (fun W (hW:But wr.heap.size w2.heap.size wr W)=>join_wide (args.map (showA d)) [44] _ W (by rw [List.length_map];exact Rd.of_own (own_but O8.out (by omega) hW)) (by simp;omega) (Nat.le_trans (inter_len 44 600000010 _ (fun x hx=>by obtain ⟨a,ha,rfl⟩:=List.mem_map.1 hx;exact showA_len d a (HFA.out a ha))) (by simp;omega)))
     have hjl:([44].intercalate (args.map (showA d))).length<=20000000000:=Nat.le_trans (inter_len 44 600000010 _ (fun x hx=>by obtain ⟨a,ha,rfl⟩:=List.mem_map.1 hx;exact showA_len d a (HFA.out a ha))) (by simp;omega)
     generalize [44].intercalate (args.map (showA d))=jn at *
     generalize args.map (showA d)=sh at *
     clear W3 HS HFA
     go_wp2_with fail
     refine (addw_any (lab) w2.heap.size wr.heap.size [] wr (by simp) (by omega) (Nat.le_refl _) W8.out).mono ?_
     rintro e w4 ⟨rfl,hw4,hb4,hbt4⟩
     have W4:=LH hw4
     have B4:=LH (BW.out.trans (hb4.mono (Nat.le_of_lt hH)))
     have BT4:=LH hbt4
     have C4:=LH ((hbt4.2 _ hH2 (by omega)).trans C8.out)
     have l1:(if (lab) = [] then ([]:List (List UInt8)) else []++[lab]).length<=1:=by split <;> simp
     obtain ⟨⟨y0,y1,y2,y3⟩,_,_,_,_⟩:=four C4.out
     have hs4:wr.heap.size<=w4.heap.size:=hbt4.1
     generalize hw1:(if (lab) = [] then ([]:List (List UInt8)) else []++[lab])=ws1 at *
     have E1:=LH hw1
     clear hw1
     clear hw4 hb4 hbt4 W8
     go_wp2_with fail
     refine (addw_any op w2.heap.size wr.heap.size ws1 w4 (by omega) (by omega) hs4 W4.out).mono ?_
     rintro e w6 ⟨rfl,hw6,hb6,hbt6⟩
     have W6:=LH hw6
     have B6:=LH (B4.out.trans (hb6.mono (Nat.le_of_lt hH)))
     have BT6:Hid (But wr.heap.size w2.heap.size wr w6):=LH ⟨Nat.le_trans hs4 hbt6.1,fun q h1 h2=>(hbt6.2 q h1 h2).trans (BT4.out.2 q h1 h2)⟩
     have l2:(if op = [] then ws1 else ws1++[op]).length<=2:=by split <;> (try simp) <;> omega
     generalize hw2:(if op = [] then ws1 else ws1++[op])=ws2 at *
     have E2:=LH hw2
     clear hw2
     clear hw6 hb6 hbt6 W4 y0 y1 y2 y3
     go_wp2_with fail
     refine (HJA.out w6 BT6.out).mono ?_
     rintro e w7 ⟨rfl,hb7⟩
     have W7:=LH (W6.out.bel hb7)
     have B7:=LH (bthen B6.out hb7)
     have hs7:wr.heap.size<=w7.heap.size:=Nat.le_trans BT6.out.1 hb7.size
     clear hb7 W6
     go_wp2_with fail
     refine (addw_any jn w2.heap.size wr.heap.size ws2 w7 (by omega) (by omega) hs7 W7.out).mono ?_
     rintro e w10 ⟨rfl,hw10,hb10,hbt10⟩
     have B10:=LH (B7.out.trans (hb10.mono (Nat.le_of_lt hH)))
     obtain ⟨vw,q1,q2⟩:=hw10
     have l3:(if jn = [] then ws2 else ws2++[jn]).length<=3:=by split <;> (try simp) <;> omega
     generalize hw3:(if jn = [] then ws2 else ws2++[jn])=ws3 at *
     have E3:Hid (ws3 = [lab,op,jn].filter (fun x=>!x.isEmpty)):=LH (by rw [← hw3,← E2.out,← E1.out];exact filt3 _ _ _)
     have HM3:∀ x∈ws3,x.length<=20000000000:=by
      rw [E3.out]
      intro x hx
      have hx:=(List.mem_filter.1 hx).1
      simp only [List.mem_cons,List.not_mem_nil,or_false] at hx
      rcases hx with rfl | rfl | rfl
      ·simp;omega
      ·omega
      ·exact hjl
     have HJ3:=LH (join_wide ws3 [32] vw w10 (Rd.of_own q2) (by omega) (Nat.le_trans (inter_len 32 20000000000 ws3 HM3) (by omega)))
     have HTX:Hid ([32].intercalate ws3=txt):=LH (by rw [E3.out,HT.out];rw [HL.out];simp)
     rw [HTX.out] at HJ3
     obtain ⟨vA,vc,rfl,_,_,_⟩:=own_slice q2 (by omega)
     have k10:=coh (i:=0) q1
     simp at k10
     clear q1 q2 hw3 HM3 E1 E2 E3 HTX HJA O8
     go_wp2_with fail
     refine HJ3.out.mono ?_
     rintro e w11 ⟨rfl,hb11⟩
     have B11:=LH (bthen B10.out hb11)
     clear hb11 HJ3
     by_cases h200:200<txt.length
     ·obtain rfl:res=([],11):=HR2.out.symm.trans (if_pos h200)
      have h200':(200:Int)<(txt.length:Int):=by omega
      clear HR2
      go_wp2_with fail
      go_ret2
      exact ⟨rfl,B11.out⟩
     ·obtain rfl:res=(txt,0):=HR2.out.symm.trans (if_neg h200)
      have h200':decide ((200:Int)<(txt.length:Int))=false:=by simp;omega
      clear HR2
      go_wp2_with fail
      go_ret2
      exact ⟨rfl,B11.out⟩
 ·have e1:((rs:Int) != 0)=true:=by rw [bne_iff_ne];omega
  have HR2:=LH (HRES.out.trans (if_pos hr))
  clear HRES hr HLen
  go_enter Tryz.func19, Tryz.ntmps19
  go_wp2_with fail
  refine (HR.out _ (B0.out _)).mono ?_
  rintro e w2 ⟨rfl,hb2⟩
  have B2:=LH (bthen (B0.out _) hb2)
  clear hb2
  go_wp2_with fail
  go_ret2
  rw [HR2.out]
  exact ⟨rfl,B2.out⟩
def stCells (s:St) (v:Value):List Value:=[.string ⟨s.label.toArray⟩,.bool s.colon,.string ⟨s.op.toArray⟩,v]
def stSub (w:World) (S:Nat->Prop) (v:Value) (s:St):Prop:=ArAt w S v s.args
theorem stSub_keep:∀ (w w':World) (S S':Nat->Prop) (v:Value) (a:St),stSub w S v a->(∀ p:Addr,S p.block->w'.cell? p=w.cell? p)->(∀ g,S g->S' g)->stSub w' S' v a:=fun _ _ _ _ _ _ h hk hS=>ArAt.keep h hk hS
theorem stCells_len (a:St) (v:Value):(stCells a v).length=4:=rfl
abbrev StOwn (w:World) (base:Nat) (v:Value) (l:List St) (vs:List Value):Prop:=OwnV stCells stSub 63 4 w base v l vs
def StAt (w:World) (S:Nat->Prop) (v:Value) (l:List St):Prop:=∃ (A:Option Addr) (c:Nat) (vs:Nat->Value),v=.slice A l.length c/\l.length<=c/\l.length<=maxLen /\
 (0<l.length->∃ g o,A=some ⟨g,o,none⟩/\S g/\∀ i (hi:i<l.length),∀ j u,(stCells l[i] (vs i))[j]? = some u->w.cell? ⟨g,o+i * 4+j,none⟩=some u) /\
 ∀ i (hi:i<l.length),ArAt w S (vs i) l[i].args
theorem StAt.keep {w w':World} {S S':Nat->Prop} {v:Value} {l:List St} (h:StAt w S v l) (hk:∀ p:Addr,S p.block->w'.cell? p=w.cell? p) (hS:∀ g,S g->S' g):StAt w' S' v l:=by
 obtain ⟨A,c,vs,h1,h2,h3,h4,h5⟩:=h
 refine ⟨A,c,vs,h1,h2,h3,fun h0=>?_,fun i hi=>(h5 i hi).keep hk hS⟩
 obtain ⟨g,o,g1,g2,g3⟩:=h4 h0
 exact ⟨g,o,g1,hS g g2,fun i hi j u hu=>(hk _ g2).trans (g3 i hi j u hu)⟩
theorem StAt.nil (w:World) (S:Nat->Prop):StAt w S (.slice none 0 0) []:=
 ⟨none,0,fun _=>.slice none 0 0,rfl,Nat.le_refl _,by unfold maxLen;simp,fun h=>absurd h (by simp),fun i hi=>absurd hi (by simp)⟩
theorem StAt.form {w:World} {S:Nat->Prop} {v:Value} {l:List St} (h:StAt w S v l):∃ A c,v=.slice A l.length c/\l.length<=c/\l.length<=maxLen:=by
 obtain ⟨A,c,vs,h1,h2,h3,h4,h5⟩:=h
 exact ⟨A,c,h1,h2,h3⟩
theorem StAt.at {w w':World} {B B':Nat} {v:Value} {l:List St} (h:StAt w (· < B) v l) (hb:Below B w w') (hB:B<=B'):StAt w' (· < B') v l:=h.keep (fun _ hp=>hb.cell hp) (fun x (hx:x<B)=>Nat.lt_of_lt_of_le hx hB)
theorem StAt.get {w:World} {S:Nat->Prop} {A:Option Addr} {c:Nat} {l:List St} (h:StAt w S (.slice A l.length c) l) (i:Nat) (hi:i<l.length) :
  ∃ g o v,A=some ⟨g,o,none⟩/\S g/\w.cell? ⟨g,o+i * 4,none⟩=some (.string ⟨l[i].label.toArray⟩)/\w.cell? ⟨g,o+i * 4+1,none⟩=some (.bool l[i].colon)/\w.cell? ⟨g,o+i * 4+2,none⟩=some (.string ⟨l[i].op.toArray⟩)/\w.cell? ⟨g,o+i * 4+3,none⟩=some v/\ArAt w S v l[i].args:=by
 obtain ⟨A',c',vs,h1,h2,h3,h4,h5⟩:=h
 injection h1 with h1 _ _
 subst h1
 obtain ⟨g,o,g1,g2,g3⟩:=h4 (by omega)
 have g:=g3 i hi
 exact ⟨_,o,vs i,g1,g2,g 0 _ rfl,g 1 _ rfl,g 2 _ rfl,g 3 _ rfl,h5 i hi⟩
theorem OwnV.stAt {w:World} {base:Nat} {v:Value} {l:List St} {vs:List Value} (h:StOwn w base v l vs):StAt w (fun g=>base<=g/\g<w.heap.size) v l:=by
 obtain ⟨h1,h2,h3⟩:=h
 obtain ⟨A,c,rfl,hc,hm,hrow⟩:=own_slice h2 (by omega)
 refine ⟨A,c,fun i=>vs.getD i (.slice none 0 0),rfl,hc,hm,fun h0=>?_,fun i hi=>ArAt.keep (h3 i hi) (fun _ _=>rfl) (fun g hg=>⟨hg.1,hg.2.1⟩)⟩
 obtain ⟨g,rfl,g1,g2,_,g3⟩:=hrow h0
 refine ⟨g,0,rfl,⟨g1,g2⟩,fun i hi j u hu=>?_⟩
 rw [Nat.zero_add]
 exact g3 _ _ (rowV_get stCells_len l vs h1 i hi j u hu)
theorem info_st:(Tryz.prog.info? 63).map (fun i=>(i.zero,i.size,i.bytes))=some (some (.agg #[.string ⟨#[]⟩,.bool false,.string ⟨#[]⟩,.slice none 0 0]),4,64):=by kernel_rfl
theorem strs_of_bytes (l:List ByteArray):l.map Value.string=(l.map (·.data.toList)).map strV:=by
 rw [List.map_map]
 exact List.map_congr_left (fun x _=>rfl)
theorem split_any (s:List UInt8) (w:World) (hg:GW w) (hl:s.length<=1000000) :
  Calls Tryz.prog 30 #[.string ⟨s.toArray⟩,.string ⟨#[10]⟩] w fun e w'=>e=.returned (.slice (some ⟨w.heap.size,0,none⟩) (splitNl s []).length (splitNl s []).length)/\w'=w.alloc (.cells ((splitNl s []).map strV).toArray 9):=by
 obtain ⟨m,hm⟩:=hg
 have e1:(Lib.splitB ⟨#[10]⟩ 0 (Lib.countB ⟨s.toArray⟩ ⟨#[10]⟩) ⟨s.toArray⟩).map (·.data.toList)=splitNl s []:=by
  rw [Lib.splitB_data]
  exact split_nl s
 have e2:=Lib.splitB_all ⟨#[10]⟩ (by simp [ByteArray.size]) 0 _ ⟨s.toArray⟩ rfl
 have e3:Lib.countB ⟨s.toArray⟩ ⟨#[10]⟩+1=(splitNl s []).length:=by rw [← e2,← e1,List.length_map]
 refine (Tryz.strings_Split ⟨s.toArray⟩ ⟨#[10]⟩ m w (by simp [ByteArray.size];omega) hm (by simp [ByteArray.size])).mono ?_
 rintro e w' ⟨rfl,rfl⟩
 rw [e3,strs_of_bytes,e1]
 exact ⟨rfl,rfl⟩
theorem cr_any (l:List UInt8) (w:World) (hl:l.length<=1000000) :
  Calls Tryz.prog 32 #[.string ⟨l.toArray⟩,.string ⟨#[13]⟩] w fun e w'=>e=.returned (.string ⟨(crL l).toArray⟩)/\w=w':=by
 refine (Tryz.strings_TrimSuffix ⟨l.toArray⟩ ⟨#[13]⟩ w (by simp [ByteArray.size];omega)).mono ?_
 rintro e w' ⟨rfl,rfl⟩
 exact ⟨rfl,rfl⟩
theorem crL_len (l:List UInt8):(crL l).length<=l.length:=by
 unfold crL Lib.trimSuffix
 split <;> simp
def SrcP (w:World) (res:List St × Nat × Nat) (e:Ending) (w':World):Prop:=
 ∃ v,e=.returned (.tuple #[v,.agg #[.int .i64 res.2.1,.int .i64 res.2.2]])/\StAt w' (fun g=>w.heap.size<=g/\g<w'.heap.size) v res.1/\Below w.heap.size w w'
def LinesAt (w:World) (B:Nat) (v:Value) (ls:List (List UInt8)):Prop:=∃ g c,v=.slice (some ⟨g,0,none⟩) ls.length c/\ls.length<=c/\g<B/\∀ j (hj:j<ls.length),w.cell? ⟨g,j,none⟩=some (strV ls[j])
def SrcR (wl:World) (d:Int) (ls:List (List UInt8)) (R:List St × Nat × Nat) (k:Nat) (v4:Value) (wr:World):Prop:=
 ∃ acc us,acc.length=k/\readL (parseCr d) (ls.drop k) k acc=R/\Below wl.heap.size wl wr/\StOwn wr wl.heap.size v4 acc us
theorem readL_step (p:List UInt8->St × Nat) (ls:List (List UInt8)) (k:Nat) (hk:k<ls.length) (acc:List St):readL p (ls.drop k) k acc=if (p ls[k]).2≠0 then ([],k+1,(p ls[k]).2) else readL p (ls.drop (k+1)) (k+1) (acc++[(p ls[k]).1]):=by
 rw [List.drop_eq_getElem_cons hk,readL]
theorem stCells_one (a:St) (v:Value) (h:v.oneCell'=true):∀ u∈stCells a v,u.oneCell'=true:=by
 intro u hu
 simp [stCells] at hu
 rcases hu with rfl | rfl | rfl | rfl <;> first | rfl | exact h
theorem split_new (s:List UInt8) (w:World) (hg:GW w) (hl:s.length<=1000000) :
  Calls Tryz.prog 30 #[.string ⟨s.toArray⟩,.string ⟨#[10]⟩] w fun e w'=>e=.returned (.slice (some ⟨w.heap.size,0,none⟩) (splitNl s []).length (splitNl s []).length)/\Below w.heap.size w w'/\w.heap.size<w'.heap.size/\∀ j (hj:j<(splitNl s []).length),w'.cell? ⟨w.heap.size,j,none⟩=some (strV (splitNl s [])[j]):=by
 refine (split_any s w hg hl).mono ?_
 rintro e w' ⟨rfl,rfl⟩
 refine ⟨rfl,(Below.refl _ _).alloc (Nat.le_refl _) _,by simp,fun j hj=>?_⟩
 exact new_at w _ _ j _ (by rw [List.getElem?_map,List.getElem?_eq_getElem hj];rfl)
theorem last_get2 (sp:List (List UInt8)) (h:0<sp.length):sp[sp.length - 1]=sp.getLastD []:=by
 rw [List.getLastD_eq_getLast?,List.getLast?_eq_getElem?,List.getElem?_eq_getElem (by omega)];rfl
theorem src12_any (d:Int) (s:List UInt8) (w:World) (hg:GWL w) (hl:s.length<=100000) (out:List St × Nat × Nat) (hout:srcS d s=out) :
  Calls Tryz.prog 9 #[.int .i64 d,.string ⟨s.toArray⟩] w (SrcP w out):=by
 have HK:=LH (fun W=>known_any d W)
 have B0:=LH ((Below.refl w.heap.size w).alloc (Nat.le_refl _) (.cells #[.int .i64 0,.int .i64 0] 29))
 cases hk:knownB d with
 | false=>
  rw [hk] at HK
  have ho:out=([],0,1):=by rw [← hout];unfold srcS;rw [if_pos hk]
  subst ho
  clear hk hout
  go_enter Tryz.func9, Tryz.ntmps9
  go_wp2_with fail
  refine (HK.out _).mono ?_
  rintro e w1 ⟨rfl,rfl⟩
  go_wp2_with fail
  exact bodyPost_ret (v:=.tuple #[.slice none 0 0,.agg #[.int .i64 0,.int .i64 1]]) (by simp [results,Tryz.results9,go_sem]) rfl ⟨_,rfl,StAt.nil _ _,(Below.refl w.heap.size w).alloc (Nat.le_refl _) _⟩
 | true=>
  rw [hk] at HK
  have HRD:=LH ((src_read d hk s hl).symm.trans hout)
  have HC:=LH (fun W=>Tryz.strings_Count_one ⟨s.toArray⟩ 10 W)
  have hcl:Lib.countByte (ByteArray.mk s.toArray).data.toList 10<=s.length:=by show List.count 10 s<=_;exact List.count_le_length
  have HS:=LH (fun W (hW:GW W)=>split_new s W hW (by omega))
  have hsl:=splitNl_len s []
  have hsp:=splitNl_pos s []
  have HLL:=LH (lines_len s)
  have HLE:=LH (lines_each s)
  have HLS:Hid (linesL s=if (splitNl s []).getLastD [] = [] then (splitNl s []).dropLast else splitNl s []):=LH rfl
  generalize Lib.countByte (ByteArray.mk s.toArray).data.toList 10=cn at *
  generalize linesL s=ls at *
  generalize splitNl s []=sp at *
  have hpos:0<sp.length:=List.length_pos_iff.2 hsp
  have c1:decide ((2097152:Int)<(s.length:Int))=false:=by simp;omega
  have c2:decide ((131072:Int)<(cn:Int))=false:=by simp;omega
  clear hk hout
  go_enter Tryz.func9, Tryz.ntmps9
  go_wp2_with fail
  refine (HK.out _).mono ?_
  rintro e w1 ⟨rfl,rfl⟩
  go_wp2_with fail
  refine (HC.out _).mono ?_
  rintro e w1 ⟨rfl,rfl⟩
  go_wp2_with fail
  refine (HS.out _ (hg.below B0.out).2).mono ?_
  rintro e w2 ⟨rfl,hb2,hw2,hc2⟩
  rw [show (w.alloc (.cells #[.int .i64 0,.int .i64 0] 29)).heap.size=w.heap.size+1 by simp] at hc2 hw2
  have B2:=LH (bthen B0.out hb2)
  have C2:=LH ((hb2.block w.heap.size (by simp)).trans (heap_alloc_new w _))
  have HCE:=LH hc2
  have hlast:w2.cell? ⟨w.heap.size+1,sp.length - 1,none⟩=some (.string ⟨(sp.getLastD []).toArray⟩):=by rw [← last_get2 sp hpos];exact hc2 _ (by omega)
  have HD:=LH (show sp.dropLast=sp.take (sp.length - 1) from List.dropLast_eq_take)
  generalize sp.getLastD []=lst at *
  clear hb2 hc2 HS HC HK
  go_upto_if 34 with (fail)
  go_cut [6] (fun v6 wx=>wx=w2/\LinesAt w2 w2.heap.size v6 ls)
  case first=>
   by_cases h0:lst = []
   ·have hls:=HLS.out.trans (if_pos h0)
    subst h0
    have HX:Hid (LinesAt w2 w2.heap.size (.slice (some ⟨w.heap.size+1,0,none⟩) (sp.length - 1) sp.length) ls):=LH (by
     rw [hls,HD.out]
     refine ⟨w.heap.size+1,sp.length,by simp,by simp,by omega,fun j hj=>?_⟩
     rw [List.length_take] at hj
     rw [List.getElem_take]
     exact HCE.out j (by omega))
    clear hls
    go_wp2_with fail
    go_meet
    exact ⟨rfl,HX.out⟩
   ·have hls:=HLS.out.trans (if_neg h0)
    obtain ⟨x0,r0,rfl⟩:∃ x0 r0,lst=x0 :: r0:=by cases lst with
     | nil=>exact absurd rfl h0
     | cons a b=>exact ⟨a,b,rfl⟩
    have HX:Hid (LinesAt w2 w2.heap.size (.slice (some ⟨w.heap.size+1,0,none⟩) sp.length sp.length) ls):=LH (by
     rw [hls]
     exact ⟨w.heap.size+1,sp.length,rfl,Nat.le_refl _,by omega,HCE.out⟩)
    clear hls h0
    go_wp2_with fail
    go_meet
    exact ⟨rfl,HX.out⟩
  case rest=>
   obtain ⟨hwc,g6,c6,rfl,hc6,hg6,hcell⟩:=hcut
   subst hwc
   have HCL:=LH hcell
   have HLC:=LH (show readL (parseCr d) (ls.drop 0) 0 []=out from HRD.out)
   have c3:decide ((131072:Int)<(ls.length:Int))=false:=by have:=HLL.out;simp;omega
   have hln:ls.length<=100001:=by have:=HLL.out;omega
   clear hcell HRD HLS HD HCE hlast hsl hsp hpos c1 c2 hcl
   go_wp2_with fail
   go_loopw [4,44] (fun v4 i wr=>∃ k:Nat,k<=ls.length/\i=.int .i64 k/\SrcR wc d ls out k v4 wr) (fun _ i _=>ls.length - (intOf i).toNat)
   case atStart=>exact ⟨0,Nat.zero_le _,rfl,[],[],rfl,HLC.out,Below.refl _ _,OwnV.nil _ _⟩
   case round=>
    obtain ⟨k,hk,rfl,acc,us,hal,harg,hbw,hown⟩:=hrel
    have HAL:=LH hal
    have HARG:=LH harg
    have BL:=LH hbw
    have OW:=LH hown
    have hBl:w.heap.size<wc.heap.size:=by omega
    have BW:=LH (B2.out.trans (hbw.mono (Nat.le_of_lt hBl)))
    have C5:=LH ((hbw.block _ hBl).trans C2.out)
    have hsz:wc.heap.size<=wr.heap.size:=hbw.size
    obtain ⟨vA,vc,rfl,hvc,hvm,_⟩:=own_slice hown.2.1 (by omega)
    have x0:=coh (i:=0) C5.out
    have x1:=coh (i:=1) C5.out
    have z0:=foh (i:=0) C5.out
    have z1:=foh (i:=1) C5.out
    simp at x0 x1 z0 z1
    clear hal harg hbw hown HLC
    by_cases hlt:k<ls.length
    ·have hcl:=(BL.out.cell (p:=⟨g6,k,none⟩) hg6).trans (HCL.out k hlt)
     have hll:ls[k].length<=100000:=Nat.le_trans (HLE.out _ (List.getElem_mem hlt)) hl
     have HCR:=LH (fun W=>cr_any ls[k] W (by omega))
     have HPA:=LH (parse12_any d (crL ls[k]) wr (hg.below BW.out) (Nat.le_trans (crL_len _) (by omega)))
     have HST:=LH ((readL_step (parseCr d) ls k hlt acc).symm.trans HARG.out)
     unfold parseCr at HST
     unfold strV at hcl
     generalize parseS d (crL ls[k])=res at *
     generalize crL ls[k]=cl at *
     generalize ls[k]=l at *
     obtain ⟨a,ka⟩:=res
     clear HARG
     go_wp2_with fail
     refine (HCR.out _).mono ?_
     rintro e w1 ⟨rfl,rfl⟩
     go_wp2_with fail
     refine HPA.out.mono ?_
     rintro e w7 ⟨va,rfl,hat,hb7⟩
     obtain ⟨sA,sc,rfl,hsc,hsm⟩:=hat.form
     have B7:=LH (bthen BW.out hb7)
     have BE7:=LH hb7
     have SA:=LH hat
     have hBr:w.heap.size<wr.heap.size:=loh C5.out
     have C7:=LH ((hb7.block _ hBr).trans C5.out)
     have hB7:w.heap.size<w7.heap.size:=loh C7.out
     clear hb7 hat HPA HCR hcl x0 x1 z0 z1
     have x0:=coh (i:=0) C7.out
     have x1:=coh (i:=1) C7.out
     have z0:=foh (i:=0) C7.out
     have z1:=foh (i:=1) C7.out
     simp at x0 x1 z0 z1
     by_cases hka:ka=0
     ·subst hka
      have HST2:=LH ((if_neg (by simp)).symm.trans HST.out)
      have hac:acc.length<=100001:=by have:=HAL.out;omega
      have BE8:=LH ((BE7.out.alloc BE7.out.size (.cells (stCells a (.slice sA a.args.length sc)).toArray 63)).alloc (Nat.le_trans BE7.out.size (by simp)) (.cells (stCells a (.slice sA a.args.length sc)).toArray 63))
      have HO8:=LH (OwnV.keep stSub_keep OW.out BE8.out).2.1
      have HN8:=LH (rd_new (w7.alloc (.cells (stCells a (.slice sA a.args.length sc)).toArray 63)) (w7.heap.size+1) (by simp) (stCells a (.slice sA a.args.length sc)) 63)
      have HS8:=LH (show stSub ((w7.alloc (.cells (stCells a (.slice sA a.args.length sc)).toArray 63)).alloc (.cells (stCells a (.slice sA a.args.length sc)).toArray 63)) (fun g=>wc.heap.size<=g/\g<((w7.alloc (.cells (stCells a (.slice sA a.args.length sc)).toArray 63)).alloc (.cells (stCells a (.slice sA a.args.length sc)).toArray 63)).heap.size/\(Value.slice vA acc.length vc).ownBlock≠some g) (.slice sA a.args.length sc) a from
       ArAt.keep SA.out (fun p hp=>(((Below.refl w7.heap.size w7).alloc (Nat.le_refl _) _).alloc (by simp) _).cell hp.2) (fun g hg=>⟨Nat.le_trans hsz hg.1,by simp;omega,fun hh=>by have:=own_block_lt OW.out.2.1 g hh;omega⟩))
      have hb8:wc.heap.size<=((w7.alloc (.cells (stCells a (.slice sA a.args.length sc)).toArray 63)).alloc (.cells (stCells a (.slice sA a.args.length sc)).toArray 63)).heap.size:=Nat.le_trans hsz BE8.out.size
      clear HST SA hvc hvm
      go_wp2_with (at_builtin;refine wpList_append_to _ rfl (.tmp 62) (.tmp 64) 43 rfl wc.heap.size 63 _ 4 64 Tryz.underlying43 info_st rfl (by omega) HO8.out rfl HN8.out rfl rfl (stCells_one a _ rfl) (by omega) (by omega) hb8 ?_;intro v9 w9 hown9 hbel9 hg9 hv9;have ON:=LH (OwnV.snoc stSub_keep OW.out BE8.out HS8.out hown9 hg9 hv9);have BL9:=LH ((BL.out.trans (BE8.out.mono hsz)).trans hbel9);clear hown9 hbel9 hg9 hv9 HO8 HN8 HS8 BE8 hb8 x0 x1 z0 z1)
      go_roundw
      case rel=>exact ⟨k+1,by omega,by go_num,acc++[a],_,by simp [HAL.out],HST2.out,BL9.out,ON.out⟩
      case measure=>simp [intOf];omega
     ·have e1:((ka:Int) != 0)=true:=by rw [bne_iff_ne];omega
      obtain rfl:out=([],k+1,ka):=HST.out.symm.trans (if_pos hka)
      clear HST hka
      go_wp2_with fail
      exact bodyPost_ret (v:=.tuple #[.slice none 0 0,.agg #[.int .i64 ((k+1:Nat):Int),.int .i64 ka]]) (by simp [results,Tryz.results9,go_sem,hB7,x0,x1]) rfl ⟨_,rfl,StAt.nil _ _,((B7.out.setCell (Nat.le_refl _) _).setCell (Nat.le_refl _) _).alloc (by simpa using B7.out.size) _⟩
    ·obtain rfl:k=ls.length:=by omega
     have hR:=HARG.out
     rw [List.drop_length] at hR
     obtain rfl:out=(acc,0,0):=hR.symm
     have HAA:=LH (OwnV.stAt OW.out)
     clear hR HARG
     go_wp2_with fail
     go_region
     all_goals (
      go_wp2_with fail
      exact bodyPost_ret (v:=.tuple #[.slice vA acc.length vc,.agg #[.int .i64 0,.int .i64 0]]) (by simp [results,Tryz.results9,go_sem,x0,x1]) rfl ⟨_,rfl,HAA.out.keep (fun p hp=>(World.cell?_of_block (Below.heap_setCell _ _ _ p.block (by simp;omega))).trans (World.cell?_of_block (Below.heap_setCell _ _ _ p.block (by simp;omega)))) (fun g hg=>⟨by omega,by simpa using hg.2⟩),((BW.out.setCell (Nat.le_refl _) _).setCell (Nat.le_refl _) _).drew⟩)
end Go.Proofs.YtbdnbfacalfciaaGreatDoor
