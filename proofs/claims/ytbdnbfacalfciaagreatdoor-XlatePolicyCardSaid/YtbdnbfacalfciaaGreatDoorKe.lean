/- Ke. -/
import Derived.Test.YtbdnbfacalfciaaGreatDoorKa
import Derived.Test.YtbdnbfacalfciaaGreatDoorKb
import Derived.Test.YtbdnbfacalfciaaGreatDoorShelf
namespace Go.Proofs.YtbdnbfacalfciaaGreatDoor
set_option maxRecDepth 100000
set_option maxHeartbeats 4000000
open Go.RowKit
inductive SubAt (w:World) (S:Nat->Prop):Value->List Ex->Prop
 | mk (A:Option Addr) (c:Nat) (sub:List Ex) (vs:Nat->Value) (hc:sub.length<=c) (hm:sub.length<=maxLen)
   (hz:0<sub.length->∃ g o,A=some ⟨g,o,none⟩/\S g/\∀ i (hi:i<sub.length),w.cell? ⟨g,o+i * 4,none⟩=some (.string ⟨sub[i].op.toArray⟩)/\w.cell? ⟨g,o+i * 4+1,none⟩=some (.int .u16 sub[i].n)/\w.cell? ⟨g,o+i * 4+2,none⟩=some (.string ⟨sub[i].name.toArray⟩)/\w.cell? ⟨g,o+i * 4+3,none⟩=some (vs i))
   (hn:∀ i (hi:i<sub.length),sub[i].n<=65535/\sub[i].op.length<=maxLen/\sub[i].name.length<=maxLen)
   (hs:∀ i (hi:i<sub.length),SubAt w S (vs i) sub[i].sub):SubAt w S (.slice A sub.length c) sub
theorem SubAt.keep {w w':World} {S S':Nat->Prop} {v:Value} {sub:List Ex} (h:SubAt w S v sub) (hk:∀ p:Addr,S p.block->w'.cell? p=w.cell? p) (hS:∀ g,S g->S' g):SubAt w' S' v sub:=by
 induction h with
 | mk A c sub vs hc hm hz hn hs ih=>
  refine .mk A c sub vs hc hm (fun h0=>?_) hn ih
  obtain ⟨g,o,h1,h2,h3⟩:=hz h0
  refine ⟨g,o,h1,hS g h2,fun i hi=>?_⟩
  obtain ⟨c0,c1,c2,c3⟩:=h3 i hi
  exact ⟨(hk _ h2).trans c0,(hk _ h2).trans c1,(hk _ h2).trans c2,(hk _ h2).trans c3⟩
theorem SubAt.nil (w:World) (S:Nat->Prop):SubAt w S (.slice none 0 0) []:=
 .mk none 0 [] (fun _=>.slice none 0 0) (by simp) (by simp) (fun h=>absurd h (by simp)) (fun i hi=>absurd hi (by simp)) (fun i hi=>absurd hi (by simp))
theorem SubAt.form {w:World} {S:Nat->Prop} {v:Value} {sub:List Ex} (h:SubAt w S v sub):∃ A c,v=.slice A sub.length c/\sub.length<=c/\sub.length<=maxLen:=by
 cases h with
 | mk A c sub vs hc hm hz hn hs=>exact ⟨A,c,rfl,hc,hm⟩
theorem SubAt.get0 {w:World} {S:Nat->Prop} {v0:Value} {A:Option Addr} {c:Nat} {sub:List Ex} (h:SubAt w S v0 sub) (hv:v0=.slice A sub.length c) (i:Nat) (hi:i<sub.length) :
  ∃ g o v,A=some ⟨g,o,none⟩/\S g/\w.cell? ⟨g,o+i * 4,none⟩=some (.string ⟨sub[i].op.toArray⟩)/\w.cell? ⟨g,o+i * 4+1,none⟩=some (.int .u16 sub[i].n)/\w.cell? ⟨g,o+i * 4+2,none⟩=some (.string ⟨sub[i].name.toArray⟩)/\w.cell? ⟨g,o+i * 4+3,none⟩=some v/\SubAt w S v sub[i].sub/\sub[i].n<=65535/\sub[i].op.length<=maxLen/\sub[i].name.length<=maxLen:=by
 cases h with
 | mk A' c' sub vs hc hm hz hn hs=>
  injection hv with hA _ _
  subst hA
  obtain ⟨g,o,h1,h2,h3⟩:=hz (by omega)
  obtain ⟨c0,c1,c2,c3⟩:=h3 i hi
  exact ⟨g,o,vs i,h1,h2,c0,c1,c2,c3,hs i hi,(hn i hi).1,(hn i hi).2⟩
theorem SubAt.get {w:World} {S:Nat->Prop} {A:Option Addr} {c:Nat} {sub:List Ex} (h:SubAt w S (.slice A sub.length c) sub) (i:Nat) (hi:i<sub.length) :
  ∃ g o v,A=some ⟨g,o,none⟩/\S g/\w.cell? ⟨g,o+i * 4,none⟩=some (.string ⟨sub[i].op.toArray⟩)/\w.cell? ⟨g,o+i * 4+1,none⟩=some (.int .u16 sub[i].n)/\w.cell? ⟨g,o+i * 4+2,none⟩=some (.string ⟨sub[i].name.toArray⟩)/\w.cell? ⟨g,o+i * 4+3,none⟩=some v/\SubAt w S v sub[i].sub/\sub[i].n<=65535/\sub[i].op.length<=maxLen/\sub[i].name.length<=maxLen:=h.get0 rfl i hi
def exV (e:Ex) (v:Value):Value:=.agg #[.string ⟨e.op.toArray⟩,.int .u16 e.n,.string ⟨e.name.toArray⟩,v]
def exCells (e:Ex) (v:Value):List Value:=[.string ⟨e.op.toArray⟩,.int .u16 e.n,.string ⟨e.name.toArray⟩,v]
def okE (e:Ex):Prop:=e.n<=65535/\e.op.length<=maxLen/\e.name.length<=maxLen
theorem SubAt.bel {w w':World} {B:Nat} {v:Value} {sub:List Ex} (h:SubAt w (· < B) v sub) (hb:Below B w w'):SubAt w' (· < B) v sub:=h.keep (fun _ hp=>hb.cell hp) (fun _ h=>h)
theorem SubAt.more {w:World} {S S':Nat->Prop} {v:Value} {sub:List Ex} (h:SubAt w S v sub) (hS:∀ g,S g->S' g):SubAt w S' v sub:=h.keep (fun _ _=>rfl) hS
theorem SubAt.one {w:World} {S S':Nat->Prop} {v:Value} {e:Ex} (h:SubAt w S v e.sub) (hok:okE e) (hl:∀ g,S g->g<w.heap.size) (hS:∀ g,S g->S' g) (N:Nat) (hN:w.heap.size=N) (hn:S' N) (T:TypeId) :
  SubAt (w.alloc (.cells (exCells e v).toArray T)) S' (.slice (some ⟨N,0,none⟩) 1 1) [e]:=by
 subst hN
 refine .mk (some ⟨w.heap.size,0,none⟩) 1 [e] (fun _=>v) (by simp) (by unfold maxLen;simp) (fun _=>⟨w.heap.size,0,rfl,hn,fun i hi=>?_⟩) (fun i hi=>?_) (fun i hi=>?_)
 ·simp at hi
  subst hi
  exact ⟨new_at w _ T 0 _ rfl,new_at w _ T 1 _ rfl,new_at w _ T 2 _ rfl,new_at w _ T 3 _ rfl⟩
 ·simp at hi
  subst hi
  exact hok
 ·simp at hi
  subst hi
  exact h.keep (fun p hp=>World.cell?_alloc_lt _ _ _ (hl _ hp)) hS
theorem SubAt.two {w:World} {S S':Nat->Prop} {v v':Value} {e e':Ex} (h:SubAt w S v e.sub) (h':SubAt w S v' e'.sub) (hok:okE e) (hok':okE e') (hl:∀ g,S g->g<w.heap.size) (hS:∀ g,S g->S' g) (N:Nat) (hN:w.heap.size=N) (hn:S' N) (T:TypeId) :
  SubAt (w.alloc (.cells (exCells e v++exCells e' v').toArray T)) S' (.slice (some ⟨N,0,none⟩) 2 2) [e,e']:=by
 subst hN
 refine .mk (some ⟨w.heap.size,0,none⟩) 2 [e,e'] (fun i=>if i=0 then v else v') (by simp) (by unfold maxLen;simp) (fun _=>⟨w.heap.size,0,rfl,hn,fun i hi=>?_⟩) (fun i hi=>?_) (fun i hi=>?_)
 ·match i,hi with
  | 0,_=>exact ⟨new_at w _ T 0 _ rfl,new_at w _ T 1 _ rfl,new_at w _ T 2 _ rfl,new_at w _ T 3 _ rfl⟩
  | 1,_=>exact ⟨new_at w _ T 4 _ rfl,new_at w _ T 5 _ rfl,new_at w _ T 6 _ rfl,new_at w _ T 7 _ rfl⟩
 ·match i,hi with
  | 0,_=>exact hok
  | 1,_=>exact hok'
 ·match i,hi with
  | 0,_=>exact h.keep (fun p hp=>World.cell?_alloc_lt _ _ _ (hl _ hp)) hS
  | 1,_=>exact h'.keep (fun p hp=>World.cell?_alloc_lt _ _ _ (hl _ hp)) hS
theorem binds_no (o:List UInt8) (h:¬ (o=sNum∨o=sN∨o=sHere∨o=sNEG∨o = [42]∨o = [47]∨o=sMOD∨o=sSHL∨o=sSHR∨o = [43]∨o = [45]∨o=sNOT∨o=sAND∨o=sOR∨o=sXOR)):bindsE o=(0,0):=by
 simp only [not_or] at h
 obtain ⟨h1,h2,h3,h4,h5,h6,h7,h8,h9,h10,h11,h12,h13,h14,h15⟩:=h
 unfold bindsE
 simp only [h1,h2,h3,h4,h5,h6,h7,h8,h9,h10,h11,h12,h13,h14,h15,or_self,if_false]
theorem binds_any (o:List UInt8) (w:World):Calls Tryz.prog 195 #[.string ⟨o.toArray⟩] w fun e w'=>e=.returned (.tuple #[.int .i64 (bindsE o).1,.int .i64 (bindsE o).2])/\w=w':=by
 by_cases h:o=sNum∨o=sN∨o=sHere∨o=sNEG∨o = [42]∨o = [47]∨o=sMOD∨o=sSHL∨o=sSHR∨o = [43]∨o = [45]∨o=sNOT∨o=sAND∨o=sOR∨o=sXOR
 ·rcases h with rfl | rfl | rfl | rfl | rfl | rfl | rfl | rfl | rfl | rfl | rfl | rfl | rfl | rfl | rfl
  all_goals (
   go_enter Tryz.func195, Tryz.ntmps195
   go_wp2_with fail
   go_ret2
   exact ⟨rfl,rfl⟩)
 ·have HB:=LH (binds_no o h)
  simp only [not_or] at h
  obtain ⟨h1,h2,h3,h4,h5,h6,h7,h8,h9,h10,h11,h12,h13,h14,h15⟩:=h
  replace h1:(o == [35])=false:=by simpa using h1
  replace h2:(o == [110])=false:=by simpa using h2
  replace h3:(o == [36])=false:=by simpa using h3
  replace h4:(o == [78,69,71])=false:=by simpa using h4
  replace h5:(o == [42])=false:=by simpa using h5
  replace h6:(o == [47])=false:=by simpa using h6
  replace h7:(o == [77,79,68])=false:=by simpa using h7
  replace h8:(o == [83,72,76])=false:=by simpa using h8
  replace h9:(o == [83,72,82])=false:=by simpa using h9
  replace h10:(o == [43])=false:=by simpa using h10
  replace h11:(o == [45])=false:=by simpa using h11
  replace h12:(o == [78,79,84])=false:=by simpa using h12
  replace h13:(o == [65,78,68])=false:=by simpa using h13
  replace h14:(o == [79,82])=false:=by simpa using h14
  replace h15:(o == [88,79,82])=false:=by simpa using h15
  go_enter Tryz.func195, Tryz.ntmps195
  go_wp2_with fail
  go_ret2
  rw [HB.out]
  exact ⟨rfl,rfl⟩
theorem word_any (o:List UInt8) (w:World):Calls Tryz.prog 227 #[.string ⟨o.toArray⟩] w fun e w'=>e=.returned (.bool (wordE o))/\w=w':=by
 by_cases h:o=sOR∨o=sXOR∨o=sAND∨o=sNOT∨o=sMOD∨o=sSHL∨o=sSHR
 ·rcases h with rfl | rfl | rfl | rfl | rfl | rfl | rfl
  all_goals (
   go_enter Tryz.func227, Tryz.ntmps227
   go_wp2_with fail
   go_ret
   exact ⟨rfl,rfl⟩)
 ·have HB:=LH (show wordE o=false from decide_eq_false h)
  simp only [not_or] at h
  obtain ⟨h1,h2,h3,h4,h5,h6,h7⟩:=h
  replace h1:(o == [79,82])=false:=by simpa using h1
  replace h2:(o == [88,79,82])=false:=by simpa using h2
  replace h3:(o == [65,78,68])=false:=by simpa using h3
  replace h4:(o == [78,79,84])=false:=by simpa using h4
  replace h5:(o == [77,79,68])=false:=by simpa using h5
  replace h6:(o == [83,72,76])=false:=by simpa using h6
  replace h7:(o == [83,72,82])=false:=by simpa using h7
  go_enter Tryz.func227, Tryz.ntmps227
  go_wp2_with fail
  go_ret
  rw [HB.out]
  exact ⟨rfl,rfl⟩
theorem contains_any (ls:List (List UInt8)) (x:List UInt8) (g n:Nat) (w:World) (hn:n=ls.length) (hl:ls.length<=1000) (hc:∀ j (hj:j<ls.length),w.cell? ⟨g,j,none⟩=some (.string ⟨ls[j].toArray⟩)) :
  Calls Tryz.prog 169 #[.slice (some ⟨g,0,none⟩) n n,.string ⟨x.toArray⟩] w fun e w'=>e=.returned (.bool (decide (x∈ls)))/\w=w':=by
 subst hn
 refine (Tryz.slices_Contains_string g 0 ls.length ls.length (ls.map fun s=>⟨s.toArray⟩) ⟨x.toArray⟩ w (by simp) (by omega) (fun j hj=>?_)).mono ?_
 ·simp at hj
  rw [Nat.zero_add,hc j hj]
  simp [hj]
 ·rintro e w' ⟨rfl,rfl⟩
  refine ⟨?_,rfl⟩
  congr 2
  rw [List.take_of_length_le (by simp),Bool.eq_iff_iff,Lib.containsS_iff]
  simp
def PSt (w:World) (b:Nat) (s:PS):Prop:=∃ v,w.heap[b]? = some (.cells #[v,.int .i64 s.k,.int .i64 s.op] 304 (0,0))/\Rd w b v s.ts.length (tokRow s.ts)/\∀ t∈s.ts,t.2.2<=65535/\t.2.1.length<=1000
theorem hao (w:World) (o:Obj) (b:Nat) (h:b<w.heap.size):(w.alloc o).heap[b]? = w.heap[b]?:=Below.heap_alloc w o b h
theorem PSt.lt {w:World} {b:Nat} {s:PS} (h:PSt w b s):b<w.heap.size:=by obtain ⟨v,h1,_⟩:=h;exact loh h1
theorem PSt.keep {w w':World} {b:Nat} {s:PS} (h:PSt w b s) (h1:w'.heap[b]? = w.heap[b]?) (h2:∀ p:Addr,p.block<b->w'.cell? p=w.cell? p):PSt w' b s:=by
 obtain ⟨v,h3,h4,h5⟩:=h
 exact ⟨v,h1.trans h3,h4.keep h2,h5⟩
theorem PSt.alloc {w:World} {b:Nat} {s:PS} (h:PSt w b s) (o:Obj):PSt (w.alloc o) b s:=
 h.keep (hao w o b h.lt) (fun p hp=>World.cell?_alloc_lt _ _ _ (by have:=h.lt;omega))
theorem PSt.below {w w':World} {b:Nat} {s:PS} (h:PSt w b s) (hb:Below w.heap.size w w'):PSt w' b s:=
 h.keep (hb.block b h.lt) (fun p hp=>hb.cell (by have:=h.lt;omega))
theorem setCell_other {w:World} {b i:Nat} {u:Value} (p:Addr) (h:p.block≠b):(w.setCell ⟨b,i,none⟩ u).cell? p=w.cell? p:=World.cell?_of_block (Below.heap_setCell w ⟨b,i,none⟩ u p.block h)
theorem PSt.setK {w:World} {b:Nat} {s:PS} (h:PSt w b s) (k:Nat):PSt (w.setCell ⟨b,1,none⟩ (.int .i64 k)) b { s with k:=k }:=by
 obtain ⟨v,h3,h4,h5⟩:=h
 exact ⟨v,heap_set _ h3,h4.keep (fun p hp=>setCell_other p (by omega)),h5⟩
theorem PSt.setOp {w:World} {b:Nat} {s:PS} (h:PSt w b s) (k:Nat):PSt (w.setCell ⟨b,2,none⟩ (.int .i64 k)) b { s with op:=k }:=by
 obtain ⟨v,h3,h4,h5⟩:=h
 exact ⟨v,heap_set _ h3,h4.keep (fun p hp=>setCell_other p (by omega)),h5⟩
theorem PSt.cells {w:World} {b:Nat} {s:PS} (h:PSt w b s):∃ A c,w.cell? ⟨b,0,none⟩=some (.slice A s.ts.length c)/\w.cell? ⟨b,1,none⟩=some (.int .i64 s.k)/\w.cell? ⟨b,2,none⟩=some (.int .i64 s.op) /\
  w.frozen? ⟨b,0,none⟩=false/\w.frozen? ⟨b,1,none⟩=false/\w.frozen? ⟨b,2,none⟩=false/\s.ts.length<=c/\Rd w b (.slice A s.ts.length c) s.ts.length (tokRow s.ts):=by
 obtain ⟨v,h3,h4,h5⟩:=h
 obtain ⟨A,c,rfl,hc⟩:=h4.form
 exact ⟨A,c,coh h3,coh h3,coh h3,foh h3,foh h3,foh h3,hc,h4⟩
def atV:Option (List UInt8)->Value
 | some o=>.tuple #[.string ⟨o.toArray⟩,.bool true]
 | none=>.tuple #[.string ⟨#[]⟩,.bool false]
theorem at_any (s:PS) (kind:Int) (ls:List (List UInt8)) (b g n:Nat) (w:World) (hp:PSt w b s) (hl:s.ts.length<=1000000) (hn:n=ls.length) (hls:ls.length<=1000) (hc:∀ j (hj:j<ls.length),w.cell? ⟨g,j,none⟩=some (.string ⟨ls[j].toArray⟩)) :
  Calls Tryz.prog 264 #[.pointer (some ⟨b,0,none⟩),.int .i64 kind,.slice (some ⟨g,0,none⟩) n n] w fun e w'=>e=.returned (atV (atT s.ts kind ls))/\w=w':=by
 obtain ⟨A,c,p0,p1,p2,f0,f1,f2,hc2,hr⟩:=hp.cells
 subst hn
 have HC:=fun x=>contains_any ls x g ls.length w rfl hls hc
 have HC':=LH HC
 clear HC hc p1 p2 f0 f1 f2 hp
 rcases s with ⟨ts,k,op⟩
 cases ts with
 | nil=>
  go_enter Tryz.func264, Tryz.ntmps264
  go_wp2_with fail
  go_ret2
  exact ⟨rfl,rfl⟩
 | cons t r=>
  obtain ⟨g1,o1,rfl,hg1,c0,c1,c3⟩:=hr.tok 0 (by simp)
  simp only [Nat.zero_mul,Nat.add_zero,List.getElem_cons_zero] at c0 c1 c3
  have HA:Hid (atT (t :: r) kind ls=if t.1=kind/\t.2.1∈ls then some t.2.1 else none):=LH rfl
  show Calls _ _ _ _ fun e w'=>e=.returned (atV (atT (t :: r) kind ls))/\w=w'
  generalize atT (t :: r) kind ls=res at *
  have hlen:(0:Int)<((t :: r).length:Int):=by simp
  have hlen2:(t :: r).length<=1000000:=hl
  have p0':w.cell? ⟨b,0,none⟩=some (.slice (some ⟨g1,o1,none⟩) (t :: r).length c):=p0
  clear p0 hr hl c3 hc2
  generalize (t :: r).length=len at *
  by_cases hk:t.1=kind
  ·subst hk
   cases hm:decide (t.2.1∈ls) with
   | true=>
    have hres:res=some t.2.1:=HA.out.trans (if_pos ⟨rfl,by simpa using hm⟩)
    have HM:=LH hm
    clear HA hm
    go_enter Tryz.func264, Tryz.ntmps264
    go_wp2_with fail
    refine (HC'.out _).mono ?_
    rintro e w' ⟨rfl,rfl⟩
    rw [HM.out]
    go_wp2_with fail
    go_ret2
    rw [hres]
    exact ⟨rfl,rfl⟩
   | false=>
    have hres:res=none:=HA.out.trans (if_neg (fun h=>by simp [h.2] at hm))
    have HM:=LH hm
    clear HA hm
    go_enter Tryz.func264, Tryz.ntmps264
    go_wp2_with fail
    refine (HC'.out _).mono ?_
    rintro e w' ⟨rfl,rfl⟩
    rw [HM.out]
    go_wp2_with fail
    go_ret2
    rw [hres]
    exact ⟨rfl,rfl⟩
  ·have hres:res=none:=HA.out.trans (if_neg (fun h=>hk h.1))
   have hk':(t.1 == kind)=false:=by simp [hk]
   clear HA HC'
   go_enter Tryz.func264, Tryz.ntmps264
   go_wp2_with fail
   go_ret2
   rw [hres]
   exact ⟨rfl,rfl⟩
theorem grow_refl (w:World) (row:Option Nat):w.grownBy w row:=World.grownBy.refl w row
theorem grow_trans {a b c:World} {g:Nat} (h1:a.grownBy b (some g)) (h2:b.grownBy c (some g)):a.grownBy c (some g):=
 ⟨h2.os.trans h1.os,h2.tape.trans h1.tape,h2.output.trans h1.output,Nat.le_trans h1.size h2.size,fun i hi hne=>(h2.block i (Nat.lt_of_lt_of_le hi h1.size) hne).trans (h1.block i hi hne)⟩
theorem fail_any (s:PS) (k:Nat) (b:Nat) (w:World) (hp:PSt w b s) :
  Calls Tryz.prog 276 #[.pointer (some ⟨b,0,none⟩),.int .i64 k] w fun e w'=>e=.returned (exV ex0 (.slice none 0 0))/\PSt w' b (s.fail k)/\w.grownBy w' (some b):=by
 obtain ⟨A,c,p0,p1,p2,f0,f1,f2,hc2,hr⟩:=hp.cells
 have hlt:=hp.lt
 clear p0 p2 f0 f2 hr hc2
 by_cases hk:s.k=0
 ·have HF:Hid (s.fail k = { s with k:=k }):=LH (if_pos hk)
  have p1':w.cell? ⟨b,1,none⟩=some (.int .i64 0):=by rw [p1,hk];rfl
  clear p1
  go_enter Tryz.func276, Tryz.ntmps276
  go_wp2_with fail
  rw [HF.out]
  refine bodyPost_ret (v:=exV ex0 (.slice none 0 0)) (by simp [results,Tryz.results276,go_sem];rfl) rfl ⟨rfl,?_,?_⟩
  ·exact (hp.setK k).alloc _
  ·exact only_alloc (only_setCell (grow_refl _ _) (.inl rfl) _) _
 ·have HF:Hid (s.fail k=s):=LH (if_neg hk)
  have hk':((s.k:Int) == 0)=false:=by rw [beq_eq_false_iff_ne];omega
  go_enter Tryz.func276, Tryz.ntmps276
  go_wp2_with fail
  rw [HF.out]
  refine bodyPost_ret (v:=exV ex0 (.slice none 0 0)) (by simp [results,Tryz.results276,go_sem];rfl) rfl ⟨rfl,?_,?_⟩
  ·exact hp.alloc _
  ·exact only_alloc (grow_refl _ _) _
theorem Rd.tail {w:World} {B c g o:Nat} {t:Tok} {r:List Tok} (h:Rd w B (.slice (some ⟨g,o,none⟩) (t :: r).length c) (t :: r).length (tokRow (t :: r))) (g' o':Nat) (hgo:0<r.length->g'=g/\o'=o+3) (c':Nat) (hc:r.length<=c'):Rd w B (.slice (some ⟨g',o',none⟩) r.length c') r.length (tokRow r):=by
 obtain ⟨A',c2,h1,h2,h3⟩:=h
 injection h1 with h1 _ _
 subst h1
 refine ⟨_,c',rfl,hc,fun h0=>?_⟩
 obtain ⟨rfl,rfl⟩:=hgo h0
 obtain ⟨g2,o2,h4,h5,h6⟩:=h3 (by simp)
 injection h4 with h4
 injection h4 with h4 h7 _
 subst h4 h7
 refine ⟨_,_,rfl,h5,fun j u hu=>?_⟩
 have:=h6 (j+3) u (by
  have e:tokRow (t :: r)=tokCells t++tokRow r:=by simp [tokRow]
  rw [e,List.getElem?_append_right (by simp [tokCells])]
  simpa [tokCells] using hu)
 rw [← this]
 congr 2
 omega
theorem PSt.setTs {w:World} {b:Nat} {s:PS} {t:Tok} {r:List Tok} (h:PSt w b s) (hs:s.ts=t :: r) (v:Value) (hv:Rd w b v r.length (tokRow r)):PSt (w.setCell ⟨b,0,none⟩ v) b s.skip:=by
 obtain ⟨v0,h3,h4,h5⟩:=h
 have e:s.skip.ts=r:=by simp [PS.skip,hs]
 refine ⟨v,heap_set _ h3,?_,?_⟩
 ·rw [e];exact hv.keep (fun p hp=>setCell_other p (by omega))
 ·rw [e];intro t ht;exact h5 t (by rw [hs];simp [ht])
theorem skip_any (s:PS) (t:Tok) (r:List Tok) (b:Nat) (w:World) (hp:PSt w b s) (hs:s.ts=t :: r) (hl:s.ts.length<=1000000) :
  Calls Tryz.prog 244 #[.pointer (some ⟨b,0,none⟩)] w fun e w'=>e=.returned (tokV t)/\PSt w' b s.skip/\w.grownBy w' (some b):=by
 obtain ⟨A,c,p0,p1,p2,f0,f1,f2,hc2,hr⟩:=hp.cells
 have hlt:=hp.lt
 clear p1 p2 f1 f2
 rw [hs] at p0 hr hc2 hl
 obtain ⟨g1,o1,rfl,hg1,c0,c1,c3⟩:=hr.tok 0 (by simp)
 simp only [Nat.zero_mul,Nat.add_zero,List.getElem_cons_zero] at c0 c1 c3
 have HR:=LH hr
 have HP:=LH hp
 have HS:=LH hs
 clear hr hp hs
 have hg2:g1<w.heap.size:=by omega
 have hgb:g1≠b:=by omega
 rw [List.length_cons] at p0 hc2 hl
 by_cases hcap:c=1
 ·subst hcap
  go_enter Tryz.func244, Tryz.ntmps244
  go_wp2_with fail
  refine bodyPost_ret (v:=tokV t) (by simp [results,Tryz.results244,go_sem];rfl) rfl ⟨rfl,?_,?_⟩
  ·exact ((HP.out.setTs HS.out _ (by have hr0:r = []:=List.eq_nil_of_length_eq_zero (by omega);subst hr0;exact HR.out.tail g1 o1 (fun h=>absurd h (by simp)) 0 (by simp))).alloc _).alloc _
  ·exact only_alloc (only_alloc (only_setCell (grow_refl _ _) (.inl rfl) _) _) _
 ·go_enter Tryz.func244, Tryz.ntmps244
  go_wp2_with fail
  refine bodyPost_ret (v:=tokV t) (by simp [results,Tryz.results244,go_sem];rfl) rfl ⟨rfl,?_,?_⟩
  ·exact ((HP.out.setTs HS.out _ (HR.out.tail g1 (o1+3) (fun _=>⟨rfl,rfl⟩) (c - 1) (by omega))).alloc _).alloc _
  ·exact only_alloc (only_alloc (only_setCell (grow_refl _ _) (.inl rfl) _) _) _
theorem oper_any (s:PS) (r:Nat) (hr:binR r) (b:Nat) (w:World) (hp:PSt w b s) (hl:s.ts.length<=1000000) :
  Calls Tryz.prog 243 #[.pointer (some ⟨b,0,none⟩),.int .i64 r] w fun e w'=>e=.returned (atV (operT r s.ts))/\Below w.heap.size w w':=by
 have HP:=LH hp
 clear hp
 rcases hr with rfl | rfl | rfl | rfl
 ·have H1:Hid (operT 1 s.ts=atT s.ts 1 [sOR,sXOR]):=LH rfl
  obtain ⟨x,hx⟩:∃ x,atT s.ts 1 [sOR,sXOR]=x:=⟨_,rfl⟩
  have HX:=LH hx
  clear hx
  go_enter Tryz.func243, Tryz.ntmps243
  go_wp2_with fail
  refine (at_any s 1 [sOR,sXOR] b w.heap.size 2 _ (HP.out.alloc _) hl rfl (by simp) (strs_new w [sOR,sXOR] _)).mono ?_
  rintro e w' ⟨rfl,rfl⟩
  rw [HX.out]
  cases x
  all_goals (
   simp only [atV]
   go_wp2_with fail
   go_ret2
   rw [H1.out,HX.out]
   exact ⟨rfl,(Below.refl _ _).alloc (Nat.le_refl _) _⟩)
 ·have H1:Hid (operT 2 s.ts=atT s.ts 1 [sAND]):=LH rfl
  obtain ⟨x,hx⟩:∃ x,atT s.ts 1 [sAND]=x:=⟨_,rfl⟩
  have HX:=LH hx
  clear hx
  go_enter Tryz.func243, Tryz.ntmps243
  go_wp2_with fail
  refine (at_any s 1 [sAND] b w.heap.size 1 _ (HP.out.alloc _) hl rfl (by simp) (strs_new w [sAND] _)).mono ?_
  rintro e w' ⟨rfl,rfl⟩
  rw [HX.out]
  cases x
  all_goals (
   simp only [atV]
   go_wp2_with fail
   go_ret2
   rw [H1.out,HX.out]
   exact ⟨rfl,(Below.refl _ _).alloc (Nat.le_refl _) _⟩)
 ·have H1:Hid (operT 4 s.ts=atT s.ts 4 [[43],[45]]):=LH rfl
  obtain ⟨x,hx⟩:∃ x,atT s.ts 4 [[43],[45]]=x:=⟨_,rfl⟩
  have HX:=LH hx
  clear hx
  go_enter Tryz.func243, Tryz.ntmps243
  go_wp2_with fail
  refine (at_any s 4 [[43],[45]] b w.heap.size 2 _ (HP.out.alloc _) hl rfl (by simp) (strs_new w [[43],[45]] _)).mono ?_
  rintro e w' ⟨rfl,rfl⟩
  rw [HX.out]
  cases x
  all_goals (
   simp only [atV]
   go_wp2_with fail
   go_ret2
   rw [H1.out,HX.out]
   exact ⟨rfl,(Below.refl _ _).alloc (Nat.le_refl _) _⟩)
 ·have H1:Hid (operT 5 s.ts=match atT s.ts 4 [[42],[47]] with | some o=>some o | none=>atT s.ts 1 [sMOD,sSHL,sSHR]):=LH rfl
  obtain ⟨x,hx⟩:∃ x,atT s.ts 4 [[42],[47]]=x:=⟨_,rfl⟩
  have HX:=LH hx
  rw [hx] at H1
  clear hx
  go_enter Tryz.func243, Tryz.ntmps243
  go_wp2_with fail
  refine (at_any s 4 [[42],[47]] b w.heap.size 2 _ (HP.out.alloc _) hl rfl (by simp) (strs_new w [[42],[47]] _)).mono ?_
  rintro e w' ⟨rfl,rfl⟩
  rw [HX.out]
  cases x with
  | some o=>
   simp only [atV]
   go_wp2_with fail
   go_ret2
   rw [H1.out]
   exact ⟨rfl,(Below.refl _ _).alloc (Nat.le_refl _) _⟩
  | none=>
   obtain ⟨y,hy⟩:∃ x,atT s.ts 1 [sMOD,sSHL,sSHR]=x:=⟨_,rfl⟩
   have HY:=LH hy
   clear hy
   simp only [atV]
   go_wp2_with fail
   refine (at_any s 1 [sMOD,sSHL,sSHR] b (w.heap.size+1) 3 _ ((HP.out.alloc _).alloc _) hl rfl (by simp) (by have:=strs_new (w.alloc (.cells #[.string ⟨#[42]⟩,.string ⟨#[47]⟩] 9)) [sMOD,sSHL,sSHR] 9;rwa [show (w.alloc (.cells #[.string ⟨#[42]⟩,.string ⟨#[47]⟩] 9)).heap.size=w.heap.size+1 by simp] at this)).mono ?_
   rintro e w' ⟨rfl,rfl⟩
   rw [HY.out]
   cases y
   all_goals (
    simp only [atV]
    go_wp2_with fail
    go_ret2
    rw [H1.out]
    simp only [HY.out]
    exact ⟨rfl,((Below.refl _ _).alloc (Nat.le_refl _) _).alloc (by simp) _⟩)
def PPost (b:Nat) (w:World) (res:Ex × PS) (e:Ending) (w':World):Prop:=
 ∃ vs,e=.returned (.agg #[.string ⟨res.1.op.toArray⟩,.int .u16 res.1.n,.string ⟨res.1.name.toArray⟩,vs])/\SubAt w' (fun g=>w.heap.size<=g/\g<w'.heap.size) vs res.1.sub/\okE res.1/\PSt w' b res.2/\w.grownBy w' (some b)
def BinH (f r b L:Nat):Prop:=∀ s w,PSt w b s->s.ts.length<=L->s.op<=48->Calls Tryz.prog 216 #[.pointer (some ⟨b,0,none⟩),.int .i64 r] w (PPost b w (pP f r s))
theorem PSt.setOpZ {w:World} {b:Nat} {s:PS} (h:PSt w b s) (k:Nat) (z:Int) (hz:z=k):PSt (w.setCell ⟨b,2,none⟩ (.int .i64 z)) b { s with op:=k }:=by subst hz;exact h.setOp k
theorem PSt.setOther {w:World} {b:Nat} {s:PS} (h:PSt w b s) (p:Addr) (hp:b<p.block) (u:Value):PSt (w.setCell p u) b s:=
 h.keep (Below.heap_setCell w p u b (by omega)) (fun q hq=>World.cell?_of_block (Below.heap_setCell w p u q.block (by omega)))
theorem ok_mk {o:List UInt8} {n:Nat} {m:List UInt8} {s:List Ex} (hn:n<=65535) (ho:o.length<=1000) (hm:m.length<=1000):okE (.mk o n m s):=⟨hn,by show o.length<=maxLen;unfold maxLen;omega,by show m.length<=maxLen;unfold maxLen;omega⟩
theorem ok0:okE ex0:=⟨by decide,by simp [ex0,Ex.op],by simp [ex0,Ex.name]⟩
theorem four {w:World} {h:Nat} {c0 c1 c2 c3:Value} {T:TypeId} (hh:w.heap[h]? = some (.cells #[c0,c1,c2,c3] T (0,0))) :
  (w.cell? ⟨h,0,none⟩=some c0/\w.cell? ⟨h,1,none⟩=some c1/\w.cell? ⟨h,2,none⟩=some c2/\w.cell? ⟨h,3,none⟩=some c3)/\(w.frozen? ⟨h,0,none⟩=false/\w.frozen? ⟨h,1,none⟩=false/\w.frozen? ⟨h,2,none⟩=false/\w.frozen? ⟨h,3,none⟩=false):=
 ⟨⟨coh hh,coh hh,coh hh,coh hh⟩,foh hh,foh hh,foh hh,foh hh⟩
theorem heap_last {w:World} {n:Nat} (hn:w.heap.size=n) (o:Obj):(w.alloc o).heap[n]? = some o:=by subst hn;exact heap_alloc_new w o
theorem size_set (w:World) (p:Addr) (u:Value):(w.setCell p u).heap.size=w.heap.size:=by simp [World.setCell]
theorem grow_four {a w:World} {g:Nat} (h:a.grownBy w (some g)) {k:Nat} (hk:a.heap.size<=k) (u0 u1 u2 u3:Value):a.grownBy ((((w.setCell ⟨k,0,none⟩ u0).setCell ⟨k,1,none⟩ u1).setCell ⟨k,2,none⟩ u2).setCell ⟨k,3,none⟩ u3) (some g):=
 only_setCell (only_setCell (only_setCell (only_setCell h (.inr hk) _) (.inr hk) _) (.inr hk) _) (.inr hk) _
theorem PSt.four {w:World} {b:Nat} {s:PS} (h:PSt w b s) {k:Nat} (hk:b<k) (u0 u1 u2 u3:Value):PSt ((((w.setCell ⟨k,0,none⟩ u0).setCell ⟨k,1,none⟩ u1).setCell ⟨k,2,none⟩ u2).setCell ⟨k,3,none⟩ u3) b s:=
 (((h.setOther _ hk _).setOther _ hk _).setOther _ hk _).setOther _ hk _
theorem SubAt.four {w:World} {S S':Nat->Prop} {v:Value} {sub:List Ex} (h:SubAt w S v sub) {k:Nat} (hk:¬ S k) (hS:∀ g,S g->S' g) (u0 u1 u2 u3:Value):SubAt ((((w.setCell ⟨k,0,none⟩ u0).setCell ⟨k,1,none⟩ u1).setCell ⟨k,2,none⟩ u2).setCell ⟨k,3,none⟩ u3) S' v sub:=
 h.keep (fun p hp=>by
  have hne:p.block≠k:=fun e=>hk (e ▸ hp)
  rw [setCell_other p hne,setCell_other p hne,setCell_other p hne,setCell_other p hne]) hS
theorem SubAt.set1 {w:World} {S:Nat->Prop} {v:Value} {sub:List Ex} (h:SubAt w S v sub) (p:Addr) (hp:¬ S p.block) (u:Value):SubAt (w.setCell p u) S v sub:=
 h.keep (fun q hq=>World.cell?_of_block (Below.heap_setCell w p u q.block (fun e=>hp (e ▸ hq)))) (fun _ h=>h)
theorem SubAt.alloc' {w:World} {S S':Nat->Prop} {v:Value} {sub:List Ex} (h:SubAt w S v sub) (o:Obj) (hw:∀ g,S g->g<w.heap.size) (hS:∀ g,S g->S' g):SubAt (w.alloc o) S' v sub:=
 h.keep (fun _ hp=>World.cell?_alloc_lt _ _ _ (hw _ hp)) hS
theorem SubAt.grown {w w':World} {S:Nat->Prop} {v:Value} {sub:List Ex} {b:Nat} (h:SubAt w S v sub) (hg:w.grownBy w' (some b)) (hb:¬ S b) (hl:∀ g,S g->g<w.heap.size):SubAt w' S v sub:=
 h.keep (fun p hp=>World.cell?_of_block (hg.block p.block (hl _ hp) (fun e=>hb (by injection e with e;exact e ▸ hp)))) (fun _ h=>h)
theorem within_any (f r b L:Nat) (hgo:BinH f r b L) (s:PS) (w:World) (hp:PSt w b s) (hl:s.ts.length<=L) (hop:s.op<=48) :
  Calls Tryz.prog 265 #[.pointer (some ⟨b,0,none⟩),.int .i64 r] w (PPost b w (wIn (pP f r) s)):=by
 obtain ⟨A,c,p0,p1,p2,f0,f1,f2,hc2,hr⟩:=hp.cells
 have hlt:=hp.lt
 have HP:=LH hp
 have hop':(s.op:Int)<=48:=by omega
 clear hp p0 p1 f0 f1 hc2 hr
 by_cases hbig:48<s.op+1
 ·have hw:Hid (wIn (pP f r) s=(ex0,({ s with op:=s.op+1 }:PS).fail 11)):=LH (by unfold wIn;exact if_pos hbig)
  have hb1:(48:Int)<(s.op:Int)+1:=by omega
  rw [hw.out]
  clear hw hgo
  go_enter Tryz.func265, Tryz.ntmps265
  go_wp2_with fail
  refine (fail_any { s with op:=s.op+1 } 11 b _ ((HP.out.setOpZ (s.op+1) _ (by omega)).alloc _)).mono ?_
  rintro e w2 ⟨rfl,hps,hgr⟩
  have hh:=(hgr.block w.heap.size (by simp [World.setCell]) (by simp;omega)).trans (heap_last (size_set _ _ _) _)
  obtain ⟨⟨k0,k1,k2,k3⟩,g0,g1,g2,g3⟩:=four hh
  have hg2:w.grownBy w2 (some b):=grow_trans (only_alloc (only_setCell (grow_refl _ _) (.inl rfl) _) _) hgr
  simp only [exV,ex0,Ex.op,Ex.n,Ex.name]
  go_wp2_with fail
  refine bodyPost_ret (v:=exV ex0 (.slice none 0 0)) (by simp [results,Tryz.results265,go_sem,k0,k1,k2,k3];rfl) rfl ⟨.slice none 0 0,rfl,SubAt.nil _ _,ok0,?_,?_⟩
  ·exact hps.four hlt _ _ _ _
  ·exact grow_four hg2 (Nat.le_refl _) _ _ _ _
 ·have hw:Hid (wIn (pP f r) s=((pP f r { s with op:=s.op+1 }).1,{ (pP f r { s with op:=s.op+1 }).2 with op:=(pP f r { s with op:=s.op+1 }).2.op - 1 })):=LH (by unfold wIn;exact if_neg hbig)
  have hinv:=((pP_inv f).1 r { s with op:=s.op+1 }).2.1 (by show s.op+1<=48;omega)
  have hc:=hgo { s with op:=s.op+1 }
  rw [hw.out]
  clear hw hgo
  generalize pP f r { s with op:=s.op+1 }=res at *
  obtain ⟨re,rs⟩:=res
  have hge:s.op+1<=rs.op/\rs.op<=49:=⟨hinv.1,hinv.2.1⟩
  clear hinv
  have hb1:decide ((48:Int)<(s.op:Int)+1)=false:=by simp;omega
  have HC:=LH hc
  clear hc
  go_enter Tryz.func265, Tryz.ntmps265
  go_wp2_with fail
  refine (HC.out _ ((HP.out.setOpZ (s.op+1) _ (by omega)).alloc _) hl (by show s.op+1<=48;omega)).mono ?_
  rintro e w2 ⟨vs,rfl,hsub,hok,hps,hgr⟩
  obtain ⟨sA,sc,rfl,_,_⟩:=hsub.form
  have hh:=(hgr.block w.heap.size (by simp [World.setCell]) (by simp;omega)).trans (heap_last (size_set _ _ _) _)
  obtain ⟨⟨k0,k1,k2,k3⟩,g0,g1,g2,g3⟩:=four hh
  have hg2:w.grownBy w2 (some b):=grow_trans (only_alloc (only_setCell (grow_refl _ _) (.inl rfl) _) _) hgr
  obtain ⟨A',c',q0,q1,q2,e0,e1,e2,hcc,hrr⟩:=hps.cells
  have hlt2:=hps.lt
  have hsz:w.heap.size+1<=w2.heap.size:=by have:=hgr.size;simpa [World.setCell] using this
  have hH:w.heap.size<w2.heap.size:=by omega
  have hHb:w.heap.size≠b:=by omega
  have hbH:b≠w.heap.size:=by omega
  have HPS:=LH hps
  have HSUB:=LH hsub
  clear hps hsub q0 q1 e0 e1 hcc hrr HC
  have hro:(1:Int)<=(rs.op:Int)/\(rs.op:Int)<=49:=by omega
  obtain ⟨hro1,hro2⟩:=hro
  dsimp only at q2 ⊢
  go_wp2_with fail
  refine bodyPost_ret (v:=.agg #[.string ⟨re.op.toArray⟩,.int .u16 re.n,.string ⟨re.name.toArray⟩,.slice sA re.sub.length sc]) (by simp [results,Tryz.results265,go_sem,k0,k1,k2,k3,hH]) rfl ⟨_,rfl,?_,hok,?_,?_⟩
  ·refine SubAt.alloc' (((HSUB.out.more (S':=fun g=>w.heap.size+1<=g/\g<w2.heap.size) (fun g hg=>by simpa [World.setCell] using hg)).set1 ⟨b,2,none⟩ (by simp;omega) _).four (k:=w.heap.size) (S':=fun g=>w.heap.size<=g/\g<w2.heap.size) (by omega) (fun g hg=>by omega) _ _ _ _) _ (fun g hg=>by simp [World.setCell];omega) (fun g hg=>by simp [World.setCell];omega)
  ·exact (((HPS.out.setOpZ (rs.op - 1) _ (by omega)).four hlt _ _ _ _)).alloc _
  ·exact only_alloc (grow_four (only_setCell hg2 (.inl rfl) _) (Nat.le_refl _) _ _ _ _) _
theorem atom_any (f b L:Nat) (hgo:∀ L',L'<L->BinH f 1 b L') (s:PS) (w:World) (hp:PSt w b s) (hl:s.ts.length<=L) (hL:L<=100000) (hop:s.op<=48) :
  Calls Tryz.prog 266 #[.pointer (some ⟨b,0,none⟩)] w (PPost b w (atomP (pP f 1) s)):=by
 obtain ⟨A,c,p0,p1,p2,f0,f1,f2,hc2,hr⟩:=hp.cells
 have hlt:=hp.lt
 have HP:=LH hp
 clear hp p1 p2 f0 f1 f2 hc2 hr
 cases hts:s.ts with
 | nil=>
  have HA:Hid (atomP (pP f 1) s=(ex0,s.fail 2)):=LH (by unfold atomP;rw [hts])
  rw [HA.out]
  rw [hts] at p0
  clear HA hgo hts
  go_enter Tryz.func266, Tryz.ntmps266
  go_wp2_with fail
  refine (fail_any s 2 b _ (HP.out.alloc _)).mono ?_
  rintro e wf ⟨rfl,hpsf,hgrf⟩
  have hgf:w.grownBy wf (some b):=grow_trans (only_alloc (grow_refl _ _) _) hgrf
  have hhf:wf.heap[w.heap.size]? = some (.cells #[.string ⟨#[]⟩,.int .u16 0,.string ⟨#[]⟩,.slice none 0 0] 70 (0,0)):=(hgrf.block w.heap.size (by simp) (by simp;omega)).trans (heap_last rfl _)
  obtain ⟨⟨k0,k1,k2,k3⟩,g0,g1,g2,g3⟩:=four hhf
  simp only [exV,ex0,Ex.op,Ex.n,Ex.name]
  go_wp2_with fail
  exact bodyPost_ret (v:=exV ex0 (.slice none 0 0)) (by simp [results,Tryz.results266,go_sem,k0,k1,k2,k3];rfl) rfl ⟨.slice none 0 0,rfl,SubAt.nil _ _,ok0,hpsf.four hlt _ _ _ _,grow_four hgf (Nat.le_refl _) _ _ _ _⟩
 | cons t r=>
  have HTS:=LH hts
  have hl2:r.length+1<=L:=by rw [hts] at hl;simpa using hl
  have hl3:s.ts.length<=1000000:=by omega
  have hl4:s.skip.ts.length<=L - 1:=by simp [PS.skip,hts];omega
  have hop2:s.skip.op<=48:=hop
  have htok:t.2.2<=65535/\t.2.1.length<=1000:=by obtain ⟨_,_,_,h⟩:=HP.out;exact h t (by rw [hts];simp)
  have HA:Hid (atomP (pP f 1) s=if t.1=1 then (if wordE t.2.1 then (ex0,s.skip.fail 2) else (.mk sN 0 t.2.1 [],s.skip))
   else if t.1=2 then (.mk sNum t.2.2 [] [],s.skip)
   else if t.1=3 then (if (valueL t.2.1).2=0 then (.mk sNum (valueL t.2.1).1 [] [],s.skip) else (ex0,s.skip.fail (valueL t.2.1).2))
   else if t.1=4 then (if t.2.1=sHere then (.mk sHere 0 [] [],s.skip)
    else if t.2.1 = [40] then (if (atT (wIn (pP f 1) s.skip).2.ts 4 [[41]]).isSome then ((wIn (pP f 1) s.skip).1,(wIn (pP f 1) s.skip).2.skip) else (ex0,(wIn (pP f 1) s.skip).2.fail 2)) else (ex0,s.skip.fail 2))
   else (ex0,s.skip.fail 2)):=LH (by unfold atomP;rw [hts])
  generalize hres:atomP (pP f 1) s=res at *
  rw [hts,List.length_cons] at p0
  have hlen0:(((r.length+1:Nat):Int) == 0)=false:=by rw [beq_eq_false_iff_ne];omega
  clear hres hts hl
  have hWI:∀ W,PSt W b s.skip->Calls Tryz.prog 265 #[.pointer (some ⟨b,0,none⟩),.int .i64 1] W (PPost b W (wIn (pP f 1) s.skip)):=fun W h1=>within_any f 1 b (L - 1) (hgo (L - 1) (by omega)) s.skip W h1 hl4 hop2
  have HWI:=LH hWI
  have hlenI:=(Inv.wIn (s:=s.skip) ((pP_inv f).1 1)).1
  clear hWI hgo
  generalize wIn (pP f 1) s.skip=wi at *
  go_enter Tryz.func266, Tryz.ntmps266
  go_wp2_with fail
  refine (skip_any s t r b _ (HP.out.alloc _) HTS.out hl3).mono ?_
  rintro e w2 ⟨rfl,hps,hgr⟩
  have hg2:w.grownBy w2 (some b):=grow_trans (only_alloc (grow_refl _ _) _) hgr
  have hsz:w.heap.size+1<=w2.heap.size:=by have:=hgr.size;simpa using this
  have hH:w.heap.size<w2.heap.size:=by omega
  have hlt2:b<w2.heap.size:=by omega
  have hh2:w2.heap[w.heap.size]? = some (.cells #[.string ⟨#[]⟩,.int .u16 0,.string ⟨#[]⟩,.slice none 0 0] 70 (0,0)):=(hgr.block w.heap.size (by simp) (by simp;omega)).trans (heap_last rfl _)
  obtain ⟨⟨z0,z1,z2,z3⟩,y0,y1,y2,y3⟩:=four hh2
  have HH2:=LH hh2
  have HPS:=LH hps
  clear hps hgr hh2 HP p0
  generalize s.skip=s2 at *
  obtain ⟨t1,t2,t3⟩:=t
  dsimp only at HA htok
  simp only [tokV]
  by_cases c1:t1=1
  ·subst c1
   rw [if_pos rfl] at HA
   cases hwd:wordE t2 with
   | true=>
    rw [hwd,if_pos rfl] at HA
    have HW:=LH hwd
    clear hwd
    go_wp2_with fail
    refine (word_any t2 _).mono ?_
    rintro e w' ⟨rfl,rfl⟩
    rw [HW.out]
    go_wp2_with fail
    refine (fail_any s2 2 b _ (HPS.out.alloc _)).mono ?_
    rintro e wf ⟨rfl,hpsf,hgrf⟩
    have hgf:w.grownBy wf (some b):=grow_trans (only_alloc hg2 _) hgrf
    have hhf:wf.heap[w.heap.size]? = some (.cells #[.string ⟨#[]⟩,.int .u16 0,.string ⟨#[]⟩,.slice none 0 0] 70 (0,0)):=(hgrf.block w.heap.size (by simp;omega) (by simp;omega)).trans ((hao _ _ _ hH).trans HH2.out)
    obtain ⟨⟨k0,k1,k2,k3⟩,g0,g1,g2,g3⟩:=four hhf
    simp only [exV,ex0,Ex.op,Ex.n,Ex.name]
    go_wp2_with fail
    rw [HA.out]
    exact bodyPost_ret (v:=exV ex0 (.slice none 0 0)) (by simp [results,Tryz.results266,go_sem,k0,k1,k2,k3];rfl) rfl ⟨.slice none 0 0,rfl,SubAt.nil _ _,ok0,hpsf.four hlt _ _ _ _,grow_four hgf (Nat.le_refl _) _ _ _ _⟩
   | false=>
    rw [hwd,if_neg (by simp)] at HA
    have HW:=LH hwd
    clear hwd
    go_wp2_with fail
    refine (word_any t2 _).mono ?_
    rintro e w' ⟨rfl,rfl⟩
    rw [HW.out]
    go_wp2_with fail
    rw [HA.out]
    refine bodyPost_ret (v:=.agg #[.string ⟨#[110]⟩,.int .u16 0,.string ⟨t2.toArray⟩,.slice none 0 0]) (by simp [results,Tryz.results266,go_sem,z0,z1,z2,z3,hH]) rfl ⟨.slice none 0 0,rfl,SubAt.nil _ _,ok_mk (by omega) (by simp) htok.2,?_,?_⟩
    ·exact (HPS.out.four hlt _ _ _ _).alloc _
    ·exact only_alloc (grow_four hg2 (Nat.le_refl _) _ _ _ _) _
  rw [if_neg c1] at HA
  by_cases c2:t1=2
  ·subst c2
   rw [if_pos rfl] at HA
   clear c1
   go_wp2_with fail
   rw [HA.out]
   refine bodyPost_ret (v:=.agg #[.string ⟨#[35]⟩,.int .u16 t3,.string ⟨#[]⟩,.slice none 0 0]) (by simp [results,Tryz.results266,go_sem,z0,z1,z2,z3,hH]) rfl ⟨.slice none 0 0,rfl,SubAt.nil _ _,ok_mk htok.1 (by simp) (by simp),?_,?_⟩
   ·exact (HPS.out.four hlt _ _ _ _).alloc _
   ·exact only_alloc (grow_four hg2 (Nat.le_refl _) _ _ _ _) _
  rw [if_neg c2] at HA
  by_cases c3:t1=3
  ·subst c3
   rw [if_pos rfl] at HA
   have hvl:=valueL_le t2
   have HV:=LH (fun W=>value_any t2 W (by omega))
   generalize valueL t2=v at *
   obtain ⟨v1,v2⟩:=v
   dsimp only at HA hvl HV
   clear c1 c2
   by_cases hv:v2=0
   ·subst hv
    rw [if_pos rfl] at HA
    go_wp2_with fail
    refine (HV.out _).mono ?_
    rintro e w4 ⟨rfl,hb4⟩
    have hsz4:w2.heap.size+1<=w4.heap.size:=by have:=hb4.size;simpa using this
    have hps4:=(HPS.out.alloc (.cells (tokCells (3,t2,t3)).toArray 153)).below hb4
    have hg4:w.grownBy w4 (some b):=grow_trans (only_alloc hg2 _) (only_of_below hb4 _)
    have hh4:w4.heap[w.heap.size]? = some (.cells #[.string ⟨#[]⟩,.int .u16 0,.string ⟨#[]⟩,.slice none 0 0] 70 (0,0)):=(hb4.block w.heap.size (by simp;omega)).trans ((hao _ _ _ hH).trans HH2.out)
    obtain ⟨⟨k0,k1,k2,k3⟩,g0,g1,g2,g3⟩:=four hh4
    go_wp2_with fail
    rw [HA.out]
    refine bodyPost_ret (v:=.agg #[.string ⟨#[35]⟩,.int .u16 v1,.string ⟨#[]⟩,.slice none 0 0]) (by simp [results,Tryz.results266,go_sem,k0,k1,k2,k3]) rfl ⟨.slice none 0 0,rfl,SubAt.nil _ _,ok_mk hvl.2 (by simp) (by simp),?_,?_⟩
    ·exact hps4.four hlt _ _ _ _
    ·exact grow_four hg4 (Nat.le_refl _) _ _ _ _
   ·rw [if_neg hv] at HA
    have hv':((v2:Int) != 0)=true:=by rw [bne_iff_ne];omega
    go_wp2_with fail
    refine (HV.out _).mono ?_
    rintro e w4 ⟨rfl,hb4⟩
    have hsz4:w2.heap.size+1<=w4.heap.size:=by have:=hb4.size;simpa using this
    have hps4:=(HPS.out.alloc (.cells (tokCells (3,t2,t3)).toArray 153)).below hb4
    have hg4:w.grownBy w4 (some b):=grow_trans (only_alloc hg2 _) (only_of_below hb4 _)
    have hh4:w4.heap[w.heap.size]? = some (.cells #[.string ⟨#[]⟩,.int .u16 0,.string ⟨#[]⟩,.slice none 0 0] 70 (0,0)):=(hb4.block w.heap.size (by simp;omega)).trans ((hao _ _ _ hH).trans HH2.out)
    go_wp2_with fail
    refine (fail_any s2 v2 b _ (hps4)).mono ?_
    rintro e wf ⟨rfl,hpsf,hgrf⟩
    have hgf:w.grownBy wf (some b):=grow_trans (hg4) hgrf
    have hhf:wf.heap[w.heap.size]? = some (.cells #[.string ⟨#[]⟩,.int .u16 0,.string ⟨#[]⟩,.slice none 0 0] 70 (0,0)):=(hgrf.block w.heap.size (by omega) (by simp;omega)).trans (hh4)
    obtain ⟨⟨k0,k1,k2,k3⟩,g0,g1,g2,g3⟩:=four hhf
    simp only [exV,ex0,Ex.op,Ex.n,Ex.name]
    go_wp2_with fail
    rw [HA.out]
    exact bodyPost_ret (v:=exV ex0 (.slice none 0 0)) (by simp [results,Tryz.results266,go_sem,k0,k1,k2,k3];rfl) rfl ⟨.slice none 0 0,rfl,SubAt.nil _ _,ok0,hpsf.four hlt _ _ _ _,grow_four hgf (Nat.le_refl _) _ _ _ _⟩
  rw [if_neg c3] at HA
  by_cases c4:t1=4
  ·subst c4
   rw [if_pos rfl] at HA
   clear c1 c2 c3
   by_cases d1:t2=sHere
   ·subst d1
    rw [if_pos rfl] at HA
    go_wp2_with fail
    rw [HA.out]
    refine bodyPost_ret (v:=.agg #[.string ⟨#[36]⟩,.int .u16 0,.string ⟨#[]⟩,.slice none 0 0]) (by simp [results,Tryz.results266,go_sem,z0,z1,z2,z3,hH]) rfl ⟨.slice none 0 0,rfl,SubAt.nil _ _,ok_mk (by omega) (by simp) (by simp),?_,?_⟩
    ·exact (HPS.out.four hlt _ _ _ _).alloc _
    ·exact only_alloc (grow_four hg2 (Nat.le_refl _) _ _ _ _) _
   rw [if_neg d1] at HA
   have d1':(t2 == [36])=false:=by simpa using d1
   by_cases d2:t2 = [40]
   ·subst d2
    rw [if_pos rfl] at HA
    clear d1
    go_wp2_with fail
    refine (HWI.out _ (HPS.out.alloc _)).mono ?_
    rintro e w4 ⟨vs,rfl,hsub,hok,hps4,hgr4⟩
    obtain ⟨sA,sc,rfl,hsc,hsm⟩:=hsub.form
    have hsz4:w2.heap.size+1<=w4.heap.size:=by have:=hgr4.size;simpa using this
    have hg4:w.grownBy w4 (some b):=grow_trans (only_alloc hg2 _) hgr4
    have hh4:w4.heap[w.heap.size]? = some (.cells #[.string ⟨#[]⟩,.int .u16 0,.string ⟨#[]⟩,.slice none 0 0] 70 (0,0)):=(hgr4.block w.heap.size (by simp;omega) (by simp;omega)).trans ((hao _ _ _ hH).trans HH2.out)
    have hsub4:=hsub.more (S':=fun g=>w2.heap.size+1<=g/\g<w4.heap.size) (fun g hg=>by simpa using hg)
    have HSUB:=LH hsub4
    have HPS4:=LH hps4
    have HH4:=LH hh4
    clear hsub hsub4 hps4 hh4 hgr4 HWI
    obtain ⟨⟨io,iN,im,is⟩,ips⟩:=wi
    dsimp only [Ex.op,Ex.n,Ex.name,Ex.sub] at *
    have hlenw:ips.ts.length<=1000000:=by omega
    obtain ⟨x,hx⟩:∃ x,atT ips.ts 4 [[41]]=x:=⟨_,rfl⟩
    rw [hx] at HA
    have HX:=LH hx
    clear hx
    go_wp2_with fail
    refine (at_any ips 4 [[41]] b (w4.heap.size+1) 1 _ ((HPS4.out.alloc _).alloc _) hlenw rfl (by simp) (by have:=strs_new (w4.alloc (.cells #[.string ⟨io.toArray⟩,.int .u16 iN,.string ⟨im.toArray⟩,.slice sA is.length sc] 70)) [[41]] 9;rwa [show (w4.alloc (.cells #[.string ⟨io.toArray⟩,.int .u16 iN,.string ⟨im.toArray⟩,.slice sA is.length sc] 70)).heap.size=w4.heap.size+1 by simp] at this)).mono ?_
    rintro e w6 ⟨rfl,hw6⟩
    rw [HX.out]
    have hps6:PSt w6 b ips:=by rw [← hw6];exact (HPS4.out.alloc _).alloc _
    have hg6:w.grownBy w6 (some b):=by rw [← hw6];exact only_alloc (only_alloc hg4 _) _
    have hsz6:w4.heap.size+2=w6.heap.size:=by rw [← hw6];simp
    have hh6:w6.heap[w.heap.size]? = some (.cells #[.string ⟨#[]⟩,.int .u16 0,.string ⟨#[]⟩,.slice none 0 0] 70 (0,0)):=by
     rw [← hw6,hao _ _ _ (by simp;omega),hao _ _ _ (by omega)];exact HH4.out
    have he6:w6.heap[w4.heap.size]? = some (.cells #[.string ⟨io.toArray⟩,.int .u16 iN,.string ⟨im.toArray⟩,.slice sA is.length sc] 70 (0,0)):=by
     rw [← hw6,hao _ _ _ (by simp)];exact heap_last rfl _
    have hs6:SubAt w6 (fun g=>w2.heap.size+1<=g/\g<w4.heap.size) (.slice sA is.length sc) is:=by
     rw [← hw6]
     exact (HSUB.out.alloc' _ (fun g hg=>hg.2) (fun g hg=>hg)).alloc' _ (fun g hg=>by simp;omega) (fun g hg=>hg)
    clear hw6
    cases x with
    | none=>
     rw [if_neg (by simp)] at HA
     simp only [atV]
     go_wp2_with fail
     refine (fail_any ips 2 b _ (hps6)).mono ?_
     rintro e wf ⟨rfl,hpsf,hgrf⟩
     have hgf:w.grownBy wf (some b):=grow_trans (hg6) hgrf
     have hhf:wf.heap[w.heap.size]? = some (.cells #[.string ⟨#[]⟩,.int .u16 0,.string ⟨#[]⟩,.slice none 0 0] 70 (0,0)):=(hgrf.block w.heap.size (by omega) (by simp;omega)).trans (hh6)
     obtain ⟨⟨k0,k1,k2,k3⟩,g0,g1,g2,g3⟩:=four hhf
     simp only [exV,ex0,Ex.op,Ex.n,Ex.name]
     go_wp2_with fail
     rw [HA.out]
     exact bodyPost_ret (v:=exV ex0 (.slice none 0 0)) (by simp [results,Tryz.results266,go_sem,k0,k1,k2,k3];rfl) rfl ⟨.slice none 0 0,rfl,SubAt.nil _ _,ok0,hpsf.four hlt _ _ _ _,grow_four hgf (Nat.le_refl _) _ _ _ _⟩
    | some o=>
     rw [if_pos (by simp)] at HA
     obtain ⟨u,q,huq⟩:∃ u q,ips.ts=u :: q:=by
      cases h:ips.ts with
      | nil=>have:=HX.out;rw [h] at this;simp [atT] at this
      | cons u q=>exact ⟨u,q,rfl⟩
     have HUQ:=LH huq
     clear huq
     simp only [atV]
     have HS6:=LH hs6
     clear hs6
     go_wp2_with fail
     refine (skip_any ips u q b _ hps6 HUQ.out hlenw).mono ?_
     rintro e w7 ⟨rfl,hps7,hgr7⟩
     have hg7:w.grownBy w7 (some b):=grow_trans hg6 hgr7
     have hh7:=(hgr7.block w.heap.size (by omega) (by simp;omega)).trans hh6
     have he7:=(hgr7.block w4.heap.size (by omega) (by simp;omega)).trans he6
     obtain ⟨⟨k0,k1,k2,k3⟩,g0,g1,g2,g3⟩:=four hh7
     obtain ⟨⟨j0,j1,j2,j3⟩,_⟩:=four he7
     have hs7:=HS6.out.grown hgr7 (by omega) (fun g hg=>by omega)
     have HS7:=LH hs7
     have hsz7:=hgr7.size
     clear hh7 he7 hh6 he6 hs7 HS6 hgr7
     go_wp2_with fail
     rw [HA.out]
     refine bodyPost_ret (v:=.agg #[.string ⟨io.toArray⟩,.int .u16 iN,.string ⟨im.toArray⟩,.slice sA is.length sc]) (by simp [results,Tryz.results266,go_sem,k0,k1,k2,k3]) rfl ⟨_,rfl,?_,hok,?_,?_⟩
     ·exact HS7.out.four (k:=w.heap.size) (by omega) (fun g hg=>by simp [World.setCell];omega) _ _ _ _
     ·exact hps7.four hlt _ _ _ _
     ·exact grow_four hg7 (Nat.le_refl _) _ _ _ _
   ·rw [if_neg d2] at HA
    have d2':(t2 == [40])=false:=by simpa using d2
    clear d1 d2
    go_wp2_with fail
    refine (fail_any s2 2 b _ (HPS.out.alloc _)).mono ?_
    rintro e wf ⟨rfl,hpsf,hgrf⟩
    have hgf:w.grownBy wf (some b):=grow_trans (only_alloc hg2 _) hgrf
    have hhf:wf.heap[w.heap.size]? = some (.cells #[.string ⟨#[]⟩,.int .u16 0,.string ⟨#[]⟩,.slice none 0 0] 70 (0,0)):=(hgrf.block w.heap.size (by simp;omega) (by simp;omega)).trans ((hao _ _ _ hH).trans HH2.out)
    obtain ⟨⟨k0,k1,k2,k3⟩,g0,g1,g2,g3⟩:=four hhf
    simp only [exV,ex0,Ex.op,Ex.n,Ex.name]
    go_wp2_with fail
    rw [HA.out]
    exact bodyPost_ret (v:=exV ex0 (.slice none 0 0)) (by simp [results,Tryz.results266,go_sem,k0,k1,k2,k3];rfl) rfl ⟨.slice none 0 0,rfl,SubAt.nil _ _,ok0,hpsf.four hlt _ _ _ _,grow_four hgf (Nat.le_refl _) _ _ _ _⟩
  ·rw [if_neg c4] at HA
   have c1':(t1 == 1)=false:=by simpa using c1
   have c2':(t1 == 2)=false:=by simpa using c2
   have c3':(t1 == 3)=false:=by simpa using c3
   have c4':(t1 == 4)=false:=by simpa using c4
   clear c1 c2 c3 c4
   go_wp2_with fail
   refine (fail_any s2 2 b _ (HPS.out.alloc _)).mono ?_
   rintro e wf ⟨rfl,hpsf,hgrf⟩
   have hgf:w.grownBy wf (some b):=grow_trans (only_alloc hg2 _) hgrf
   have hhf:wf.heap[w.heap.size]? = some (.cells #[.string ⟨#[]⟩,.int .u16 0,.string ⟨#[]⟩,.slice none 0 0] 70 (0,0)):=(hgrf.block w.heap.size (by simp;omega) (by simp;omega)).trans ((hao _ _ _ hH).trans HH2.out)
   obtain ⟨⟨k0,k1,k2,k3⟩,g0,g1,g2,g3⟩:=four hhf
   simp only [exV,ex0,Ex.op,Ex.n,Ex.name]
   go_wp2_with fail
   rw [HA.out]
   exact bodyPost_ret (v:=exV ex0 (.slice none 0 0)) (by simp [results,Tryz.results266,go_sem,k0,k1,k2,k3];rfl) rfl ⟨.slice none 0 0,rfl,SubAt.nil _ _,ok0,hpsf.four hlt _ _ _ _,grow_four hgf (Nat.le_refl _) _ _ _ _⟩
end Go.Proofs.YtbdnbfacalfciaaGreatDoor
