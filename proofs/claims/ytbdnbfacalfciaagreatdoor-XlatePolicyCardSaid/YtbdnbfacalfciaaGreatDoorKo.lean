/- Ko. -/
import Derived.Test.YtbdnbfacalfciaaGreatDoorKh
import Derived.Test.YtbdnbfacalfciaaGreatDoorKb
import Derived.Test.YtbdnbfacalfciaaGreatDoorKd
import Derived.Test.YtbdnbfacalfciaaGreatDoorKn
import Derived.Deep.RegionWith
import Derived.Test.YtbdnbfacalfciaaGreatDoorKf
namespace Go.Proofs.YtbdnbfacalfciaaGreatDoor
set_option maxRecDepth 100000
set_option maxHeartbeats 4000000
open Go.RowKit
theorem namesL_app (a b:List Ex):namesL (a++b)=namesL a++namesL b:=by
 induction a with
 | nil=>rfl
 | cons x a ih=>simp [namesL,ih]
theorem names_len (e:Ex):∀ d,rightE e d=true->(namesE e).length<=2 ^ d:=by
 induction e using Ex.ind with
 | h o n m s ih=>
  intro d h
  have hf:=rightE.form h
  cases hf with
  | num=>simp [namesE,namesL]
  | name m d=>have:=Nat.one_le_two_pow (n:=d+1);simpa [namesE,namesL] using this
  | here=>simp [namesE,namesL]
  | neg a d hA=>have:=ih a (by simp) d hA;simp [namesE,namesL,Nat.pow_succ];omega
  | not a d hA=>have:=ih a (by simp) d hA;simp [namesE,namesL,Nat.pow_succ];omega
  | two o r a b d ho h1 h2=>
   have:=ih a (by simp) d h1
   have:=ih b (by simp) d h2
   have hn:=ho.binds.2.2.1
   simp [namesE,namesL,Nat.pow_succ,hn]
   omega
theorem namesL_take (s:List Ex) (k:Nat):(namesL (s.take k)).length<=(namesL s).length:=by
 have:namesL s=namesL (s.take k)++namesL (s.drop k):=by rw [← namesL_app,List.take_append_drop]
 rw [this]
 simp
def NamesH (x:Ex):Prop:=∀ (d:Nat) (v:Value) (w:World),d<=24->rightE x d=true->SubAt w (· < w.heap.size) v x.sub ->
 Calls Tryz.prog 76 #[.agg #[.string ⟨x.op.toArray⟩,.int .u16 x.n,.string ⟨x.name.toArray⟩,v]] w fun e w'=>∃ v',e=.returned v'/\Rd w' w'.heap.size v' (namesE x).length ((namesE x).map strV)/\Below w.heap.size w w'
theorem names_leaf (m:List UInt8) (n:Nat) (v:Value) (w:World) (hs:SubAt w (· < w.heap.size) v []) :
  Calls Tryz.prog 76 #[.agg #[.string ⟨#[110]⟩,.int .u16 n,.string ⟨m.toArray⟩,v]] w fun e w'=>∃ v',e=.returned v'/\Rd w' w'.heap.size v' 1 [.string ⟨m.toArray⟩]/\Below w.heap.size w w':=by
 obtain ⟨A,c,rfl,hc,hm⟩:=hs.form
 have hb:=(Below.refl w.heap.size w).alloc (Nat.le_refl _) (.cells #[.string ⟨#[110]⟩,.int .u16 n,.string ⟨m.toArray⟩,.slice A 0 c] 70)
 have hn:=heap_alloc_new w (.cells #[.string ⟨#[110]⟩,.int .u16 n,.string ⟨m.toArray⟩,.slice A 0 c] 70)
 have HN:=LH hn
 clear hs hn
 go_enter Tryz.func76, Tryz.ntmps76
 go_wp2_with (at_builtin;refine wpList_append_at (w.alloc (.cells #[.string ⟨#[110]⟩,.int .u16 n,.string ⟨m.toArray⟩,.slice A 0 c] 70)) (w.heap.size+1) (by simp) rfl _ _ 103 rfl (w.heap.size+1) 9 _ 1 16 Tryz.underlying103 info_str rfl (by decide) (World.ownsRow_nil _ _ _ _) rfl [.string ⟨m.toArray⟩] 9 rfl rfl (one_str _) (by omega) (by omega) (by simp) ?_)
 intro v' w2 hown3 hb3
 have hb4:=LH (hb.trans (hb3.mono (Nat.le_succ _)))
 have c3:w2.cell? ⟨w.heap.size,3,none⟩=some (.slice A 0 c):=(hb3.cell (p:=⟨w.heap.size,3,none⟩) (Nat.lt_succ_self _)).trans (coh HN.out)
 have HO:=LH (Rd.of_own hown3)
 clear hown3 hb3 hb
 go_wp2_with fail
 go_loop [2,16] (fun o i=>o=v'/\i=.int .i64 0) (fun _ _=>0)
 case atStart=>exact ⟨rfl,rfl⟩
 case round=>
  obtain ⟨rfl,rfl⟩:=hrel
  go_wp2_with fail
  go_ret
  exact ⟨_,rfl,HO.out,hb4.out⟩
theorem names_node (o:List UInt8) (n:Nat) (m:List UInt8) (s:List Ex) (ho:(o == [110])=false) (d:Nat) (hd:d<=24) (hr:∀ x∈s,rightE x d=true) (hlen:(namesL s).length<=100000000) (ih:∀ x∈s,NamesH x) (v:Value) (w:World) (hs:SubAt w (· < w.heap.size) v s) :
  Calls Tryz.prog 76 #[.agg #[.string ⟨o.toArray⟩,.int .u16 n,.string ⟨m.toArray⟩,v]] w fun e w'=>∃ v',e=.returned v'/\Rd w' w'.heap.size v' (namesL s).length ((namesL s).map strV)/\Below w.heap.size w w':=by
 obtain ⟨A,c,rfl,hc,hm⟩:=hs.form
 unfold maxLen at hm
 have HS:=LH hs
 have HI:=LH ih
 have HR:=LH hr
 clear hs ih hr
 go_enter Tryz.func76, Tryz.ntmps76
 go_wp2_with fail
 go_loopw [2,16] (fun v i wr=>∃ k:Nat,k<=s.length/\i=.int .i64 k/\wr.ownsRow (w.heap.size+1) 9 1 v (namesL (s.take k)).length ((namesL (s.take k)).map strV)/\Below w.heap.size w wr/\w.heap.size+1<=wr.heap.size) (fun _ i _=>s.length - (intOf i).toNat)
 case atStart=>exact ⟨0,Nat.zero_le _,rfl,World.ownsRow_nil _ _ _ _,(Below.refl _ _).alloc (Nat.le_refl _) _,by simp⟩
 case round=>
  obtain ⟨k,hk,rfl,hown,hb,hz⟩:=hrel
  have hsz:=hb.size
  by_cases hlt:k<s.length
  ·obtain ⟨g,q,vk,rfl,hg,c0,c1,c2,c3,hsub,hn,_,_⟩:=HS.out.get k hlt
   obtain ⟨vA,vc,rfl,_,_⟩:=hsub.form
   have d0:=(hb.cell (p:=⟨g,q+k * 4,none⟩) hg).trans c0
   have d1:=(hb.cell (p:=⟨g,q+k * 4+1,none⟩) hg).trans c1
   have d2:=(hb.cell (p:=⟨g,q+k * 4+2,none⟩) hg).trans c2
   have d3:=(hb.cell (p:=⟨g,q+k * 4+3,none⟩) hg).trans c3
   have hgr:g<wr.heap.size:=Nat.lt_of_lt_of_le hg hsz
   have HSK:=LH ((hsub.bel hb).more (S':=(· < wr.heap.size)) (fun x hx=>Nat.lt_of_lt_of_le hx hsz))
   have HC:Hid (∀ o1,Calls Tryz.prog 76 #[.agg #[.string ⟨s[k].op.toArray⟩,.int .u16 s[k].n,.string ⟨s[k].name.toArray⟩,.slice vA s[k].sub.length vc]] (wr.alloc o1) fun e w'=>∃ v',e=.returned v'/\Rd w' w'.heap.size v' (namesE s[k]).length ((namesE s[k]).map strV)/\Below (wr.alloc o1).heap.size (wr.alloc o1) w'):=LH (fun o1=>HI.out s[k] (List.getElem_mem hlt) d _ _ hd (HR.out _ (List.getElem_mem hlt)) (HSK.out.keep (fun p hp=>World.cell?_alloc_lt _ _ _ hp) (fun x hx=>by simp;omega)))
   have HT:Hid (namesL (s.take (k+1))=namesL (s.take k)++namesE s[k]):=LH (by rw [List.take_succ_eq_append_getElem hlt,namesL_app];simp [namesL])
   have hl1:=Nat.le_trans (namesL_take s (k+1)) hlen
   rw [HT.out,List.length_append] at hl1
   generalize s[k]=x at *
   clear c0 c1 c2 c3 hsub
   go_wp2_with fail
   refine (HC.out _).mono ?_
   rintro e0 w5 ⟨v5,rfl,hrd5,hb5⟩
   obtain ⟨A5,c5,rfl,hc5⟩:=hrd5.form
   have hown2:=(hown.alloc (.cells #[.string ⟨x.op.toArray⟩,.int .u16 x.n,.string ⟨x.name.toArray⟩,.slice vA x.sub.length vc] 70)).kept (only_of_below hb5 none) (by cases u2.ownBlock <;> simp)
   have hb6:=bthen (hb.alloc hsz _) hb5
   have hz6:w.heap.size+1<=w5.heap.size:=by have:=hb5.size;simp at this;omega
   go_wp2_with (at_builtin;refine wpList_append_rd w5 rfl _ _ 103 rfl (w.heap.size+1) 9 _ 1 16 Tryz.underlying103 info_str rfl (by decide) hown2 rfl hrd5 rfl (by simp) (strs_one _) (by omega) (by omega) hz6 ?_)
   intro v' w7 hown7 hb7 hgr7
   have H7:Hid (w7.ownsRow (w.heap.size+1) 9 1 v' (namesL (s.take (k+1))).length ((namesL (s.take (k+1))).map strV)):=LH (by rw [HT.out,List.map_append,List.length_append];exact hown7)
   have hb8:=hb6.trans (hb7.mono (Nat.le_succ _))
   have hz8:w.heap.size+1<=w7.heap.size:=Nat.le_trans hz6 hb7.size
   clear hown hown2 hown7 hgr7 hb7 hb6 hrd5
   go_wp2_with fail
   go_roundw
   case rel=>exact ⟨k+1,by omega,by go_num,H7.out,hb8,hz8⟩
   case measure=>simp [intOf];omega
  ·obtain rfl:k=s.length:=by omega
   rw [List.take_length] at hown
   have HO:=LH (Rd.of_own hown)
   clear hown
   go_wp2_with fail
   go_ret
   exact ⟨_,rfl,HO.out,hb⟩
theorem Names_any (e:Ex):NamesH e:=by
 induction e using Ex.ind with
 | h o n m s ih=>
  intro d v w hd h hs
  have hl:=names_len _ d h
  have hp:2 ^ d<=2 ^ 24:=Nat.pow_le_pow_right (by omega) hd
  have hf:=rightE.form h
  cases hf with
  | num n d=>exact names_node sNum n [] [] (by decide) d (by omega) (by simp) (by simp [namesL]) (by simp) v w hs
  | name m d=>exact names_leaf m 0 v w hs
  | here d=>exact names_node sHere 0 [] [] (by decide) d (by omega) (by simp) (by simp [namesL]) (by simp) v w hs
  | neg a d hA=>exact names_node sNEG 0 [] [a] (by decide) d (by omega) (by simpa using hA) (by simp [namesE] at hl;omega) ih v w hs
  | not a d hA=>exact names_node sNOT 0 [] [a] (by decide) d (by omega) (by simpa using hA) (by simp [namesE] at hl;omega) ih v w hs
  | two o r a b d ho h1 h2=>
   have hn:=ho.binds.2.2.1
   have e1:namesE (.mk o 0 [] [a,b])=namesL [a,b]:=by simp [namesE,hn]
   have:=names_node o 0 [] [a,b] (by simpa using hn) d (by omega) (by simp [h1,h2]) (by rw [e1] at hl;omega) ih v w hs
   rw [e1]
   exact this
theorem Rd.str {w:World} {B c:Nat} {A:Option Addr} {xs:List (List UInt8)} (h:Rd w B (.slice A xs.length c) xs.length (xs.map strV)) (k:Nat) (hk:k<xs.length):∃ g o,A=some ⟨g,o,none⟩/\g<B/\w.cell? ⟨g,o+k,none⟩=some (.string ⟨xs[k].toArray⟩):=by
 obtain ⟨A',c',hv,hc,h3⟩:=h
 injection hv with hv _ _
 subst hv
 obtain ⟨g,o,g1,g2,g3⟩:=h3 (by omega)
 exact ⟨g,o,g1,g2,g3 k _ (by simp [hk,strV])⟩
theorem rnclo_any (d:Int) (x:List UInt8) (bm:Nat) (w:World) (hg:GWL w) (hl:x.length<=1000000) (hm:w.cell? ⟨bm,0,none⟩=some (.int .i64 d)) :
  Calls Tryz.prog 146 #[.string ⟨x.toArray⟩,.pointer (some ⟨bm,0,none⟩)] w fun e w'=>e=.returned (.bool (!plainB d x))/\Below w.heap.size w w':=by
 have HC:=LH (Plain_any d x w hl hg)
 generalize plainB d x=pb at *
 go_enter Tryz.func146, Tryz.ntmps146
 go_wp2_with fail
 refine HC.out.mono ?_
 rintro e w2 ⟨rfl,hb2⟩
 go_wp2_with fail
 go_ret
 exact ⟨rfl,hb2⟩
theorem nidx_any (d:Int) (xs:List (List UInt8)) (v:Value) (bm:Nat) (w:World) (hg:GWL w) (hr:Rd w w.heap.size v xs.length (xs.map strV)) (hx:∀ x∈xs,x.length<=1000000) (hl:xs.length<=1000000000) (hm:w.cell? ⟨bm,0,none⟩=some (.int .i64 d)) :
  Calls Tryz.prog 129 #[v,.func (.func 146) #[] #[.pointer (some ⟨bm,0,none⟩)]] w fun e w'=>(∃ z:Int,e=.returned (.int .i64 z)/\decide (0<=z) = !xs.all (plainB d))/\Below w.heap.size w w':=by
 obtain ⟨A,c,rfl,hc⟩:=hr.form
 have hltm:=World.block_lt_of_cell? _ _ hm
 have HS:=LH hr
 have HM:=LH hm
 have HX:=LH hx
 have HRL:Hid (xs.all (plainB d)=xs.all (plainB d)):=LH rfl
 have HALLN:Hid (∀ k (hk:k<xs.length),plainB d xs[k]=false->xs.all (plainB d)=false):=LH (fun k hk h=>by rw [List.all_eq_false];exact ⟨xs[k],List.getElem_mem hk,by simp [h]⟩)
 have HALLY:Hid ((xs.take xs.length).all (plainB d)=true->xs.all (plainB d)=true):=LH (fun h=>by rwa [List.take_length] at h)
 generalize xs.all (plainB d)=rl at *
 clear hr hm hx HRL
 go_enter Tryz.func129, Tryz.ntmps129
 go_wp2_with fail
 go_loopw [8] (fun i wr=>∃ k:Nat,k<=xs.length/\i=.int .i64 k/\(xs.take k).all (plainB d)=true/\Below w.heap.size w wr) (fun i _=>xs.length - (intOf i).toNat)
 case atStart=>exact ⟨0,Nat.zero_le _,rfl,rfl,Below.refl _ _⟩
 case round=>
  obtain ⟨k,hk,rfl,hall,hb⟩:=hrel
  have HALL:=LH hall
  clear hall
  by_cases hlt:k<xs.length
  ·obtain ⟨g,q,rfl,hgl,c0⟩:=HS.out.str k hlt
   have d0:=(hb.cell (p:=⟨g,q+k,none⟩) hgl).trans c0
   have HC:=LH (rnclo_any d xs[k] bm wr (hg.below hb) (HX.out _ (List.getElem_mem hlt)) ((hb.cell (p:=⟨bm,0,none⟩) hltm).trans HM.out))
   have HT:Hid ((xs.take (k+1)).all (plainB d)=((xs.take k).all (plainB d) && plainB d xs[k])):=LH (by rw [List.take_succ_eq_append_getElem hlt,List.all_append];simp)
   have HN:=LH (HALLN.out k hlt)
   generalize xs[k]=x at *
   clear c0
   cases hp:plainB d x with
   | true=>
    rw [hp] at HC HT
    clear hp
    go_wp2_with fail
    refine HC.out.mono ?_
    rintro e0 w5 ⟨rfl,hb5⟩
    go_wp2_with fail
    go_roundw
    case rel=>exact ⟨k+1,by omega,by go_num,by rw [HT.out,HALL.out];rfl,bthen hb hb5⟩
    case measure=>simp [intOf];omega
   | false=>
    rw [hp] at HC
    have hrl:=HN.out hp
    clear hp HN
    subst hrl
    go_wp2_with fail
    refine HC.out.mono ?_
    rintro e0 w5 ⟨rfl,hb5⟩
    go_wp2_with fail
    go_ret
    exact ⟨⟨_,rfl,by simp⟩,bthen hb hb5⟩
  ·obtain rfl:k=xs.length:=by omega
   have hrl:=HALLY.out HALL.out
   subst hrl
   go_wp2_with fail
   go_ret
   exact ⟨⟨_,rfl,by simp⟩,hb⟩
theorem ncont_any (d:Int) (xs:List (List UInt8)) (v:Value) (bm:Nat) (w:World) (hg:GWL w) (hr:Rd w w.heap.size v xs.length (xs.map strV)) (hx:∀ x∈xs,x.length<=1000000) (hl:xs.length<=1000000000) (hm:w.cell? ⟨bm,0,none⟩=some (.int .i64 d)) :
  Calls Tryz.prog 75 #[v,.func (.func 146) #[] #[.pointer (some ⟨bm,0,none⟩)]] w fun e w'=>e=.returned (.bool (!xs.all (plainB d)))/\Below w.heap.size w w':=by
 have HI:=LH (nidx_any d xs v bm w hg hr hx hl hm)
 obtain ⟨A,c,rfl,hc⟩:=hr.form
 generalize xs.all (plainB d)=rl at *
 clear hr hm hx
 go_enter Tryz.func75, Tryz.ntmps75
 go_wp2_with fail
 refine HI.out.mono ?_
 rintro e w2 ⟨⟨z,rfl,hz⟩,hb2⟩
 have HZ:=LH hz
 clear hz
 go_wp2_with fail
 go_ret
 exact ⟨ret_bool HZ.out,hb2⟩
theorem names_short (e:Ex):∀ d,rightE e d=true->∀ m∈namesE e,m.length<=16:=by
 induction e using Ex.ind with
 | h o n m s ih=>
  intro d h
  have hf:=rightE.form h
  cases hf with
  | num=>simp [namesE,namesL]
  | name m d g1=>intro x hx;simp [namesE,namesL] at hx;subst hx;unfold nameB at g1;simp only [Bool.and_eq_true,decide_eq_true_eq] at g1;exact g1.1.1.2
  | here=>simp [namesE,namesL]
  | neg a d hA=>intro x hx;simp [namesE,namesL] at hx;exact ih a (by simp) d hA x hx
  | not a d hA=>intro x hx;simp [namesE,namesL] at hx;exact ih a (by simp) d hA x hx
  | two o r a b d ho h1 h2=>
   have hn:=ho.binds.2.2.1
   intro x hx
   simp [namesE,namesL,hn] at hx
   rcases hx with hx | hx
   ·exact ih a (by simp) d h1 x hx
   ·exact ih b (by simp) d h2 x hx
def fitA (a:Ar):Prop:=a.w.length<=1000/\a.t.length<=1000/\fitE a.e=true
theorem cells8 {w:World} {b:Nat} {x0 x1 x2 x3 x4 x5 x6 x7:Value} {t:TypeId} {fr:Nat × Nat} (h:w.heap[b]? = some (.cells #[x0,x1,x2,x3,x4,x5,x6,x7] t fr)) :
  w.cell? ⟨b,0,none⟩=some x0/\w.cell? ⟨b,1,none⟩=some x1/\w.cell? ⟨b,2,none⟩=some x2/\w.cell? ⟨b,3,none⟩=some x3/\w.cell? ⟨b,4,none⟩=some x4/\w.cell? ⟨b,5,none⟩=some x5/\w.cell? ⟨b,6,none⟩=some x6/\w.cell? ⟨b,7,none⟩=some x7:=
 ⟨coh h,coh h,coh h,coh h,coh h,coh h,coh h,coh h⟩
theorem boxes {w w1:World} {o1 o2:Obj} (hb:Below ((w.alloc o1).alloc o2).heap.size ((w.alloc o1).alloc o2) w1):w1.heap[w.heap.size]? = some o1/\w1.heap[w.heap.size+1]? = some o2/\Below w.heap.size w w1:=by
 refine ⟨(hb.block w.heap.size (by simp;omega)).trans ((Below.heap_alloc _ _ _ (by simp)).trans (heap_alloc_new w _)),?_,bthen (((Below.refl w.heap.size w).alloc (Nat.le_refl _) _).alloc (by simp) _) hb⟩
 have h:=heap_alloc_new (w.alloc o1) o2
 rw [show (w.alloc o1).heap.size=w.heap.size+1 by simp] at h
 exact (hb.block (w.heap.size+1) (by simp)).trans h
theorem right12_word (d:Int) (op:List UInt8) (a:Ar) (v:Value) (w:World) (hg:GWL w) (hw:a.w≠[]) (hs:SubAt w (· < w.heap.size) v a.e.sub) :
    Calls Tryz.prog 102 #[.int .i64 d,.string ⟨op.toArray⟩,arV a v] w fun e w'=>e=.returned (.bool (rightA d op a))/\Below w.heap.size w w':=by
  have HQ:=LH (fun W (hW:Below w.heap.size w W)=>Same_any a.e ex0 v (.slice none 0 0) W (hs.at hW hW.size) (SubAt.nil _ _))
  have HW:=LH (fun W (hW:GWL W)=>word12_any d a.w W hW)
  have HR:Hid (rightA d op a=(sameE a.e ex0 && !a.mem && a.t == [] && !a.is && wordB d a.w)):=LH (by unfold rightA emptyA;rw [if_pos hw])
  generalize rightA d op a=res at *
  obtain ⟨A,c,rfl,hc,hm⟩:=hs.form
  clear hs hc hm
  obtain ⟨aw,at1,ais,amem,ae⟩:=a
  have hw1:(aw == [])=false:=by simpa using hw
  have hw2:aw.isEmpty=false:=by simpa using hw
  unfold arV
  simp only at *
  generalize sameE ae ex0=se at *
  generalize wordB d aw=wb at *
  generalize ae.sub.length=sl at *
  obtain ⟨o,n,m,s⟩:=ae
  simp only [Ex.op,Ex.n,Ex.name,ex0] at *
  clear hw
  by_cases hcase:se=true/\amem=false/\at1 = []/\ais=false
  · obtain ⟨rfl,rfl,rfl,rfl⟩:=hcase
    have HR':Hid (res=wb):=LH (by rw [HR.out];simp)
    go_enter Tryz.func102, Tryz.ntmps102
    go_wp2_with fail
    refine (HQ.out _ (((Below.refl _ _).alloc (Nat.le_refl _) _).alloc (by simp) _)).mono ?_
    rintro e w1 ⟨rfl,hb1⟩
    obtain ⟨C0,C1,B1⟩:=boxes hb1
    have hgw:=LH (hg.below B1)
    have d0:=coh (i:=0) C0
    obtain ⟨c0,c1,c2,c3,c4,c5,c6,c7⟩:=cells8 C1
    simp at d0
    have HB1:=LH B1
    clear C0 C1 hb1 B1
    go_wp2_with fail
    refine (HW.out _ hgw.out).mono ?_
    rintro e w2 ⟨rfl,hb2⟩
    go_wp2_with fail
    go_ret
    rw [HR'.out]
    exact ⟨rfl,bthen HB1.out hb2⟩
  · have HR':Hid (res=false):=LH (by
      rw [HR.out]
      cases se <;> cases amem <;> cases ais <;> simp_all)
    cases hat:at1 with
    | nil=>
      subst hat
      cases se <;> cases amem <;> cases ais
      all_goals first
        | (exfalso;simp at hcase;done)
        | (clear hcase
           go_enter Tryz.func102, Tryz.ntmps102
           go_wp2_with fail
           refine (HQ.out _ (((Below.refl _ _).alloc (Nat.le_refl _) _).alloc (by simp) _)).mono ?_
           rintro e w1 ⟨rfl,hb1⟩
           obtain ⟨C0,C1,B1⟩:=boxes hb1
           have d0:=coh (i:=0) C0
           obtain ⟨c0,c1,c2,c3,c4,c5,c6,c7⟩:=cells8 C1
           simp at d0
           have HB1:=LH B1
           clear C0 C1 hb1 B1
           go_wp2_with fail
           go_ret
           rw [HR'.out]
           exact ⟨rfl,HB1.out⟩)
    | cons x r=>
      rw [hat] at hcase
      clear hat hcase
      cases se <;> cases amem
      all_goals (
        go_enter Tryz.func102, Tryz.ntmps102
        go_wp2_with fail
        refine (HQ.out _ (((Below.refl _ _).alloc (Nat.le_refl _) _).alloc (by simp) _)).mono ?_
        rintro e w1 ⟨rfl,hb1⟩
        obtain ⟨C0,C1,B1⟩:=boxes hb1
        have d0:=coh (i:=0) C0
        obtain ⟨c0,c1,c2,c3,c4,c5,c6,c7⟩:=cells8 C1
        simp at d0
        have HB1:=LH B1
        clear C0 C1 hb1 B1
        go_wp2_with fail
        go_ret
        rw [HR'.out]
        exact ⟨rfl,HB1.out⟩)
theorem right12_text (d:Int) (op:List UInt8) (a:Ar) (v:Value) (w:World) (hg:GWL w) (hw:a.w = []) (hi:a.is=true) (hf:fitA a) (hs:SubAt w (· < w.heap.size) v a.e.sub) :
  Calls Tryz.prog 102 #[.int .i64 d,.string ⟨op.toArray⟩,arV a v] w fun e w'=>e=.returned (.bool (rightA d op a))/\Below w.heap.size w w':=by
 have HQ:=LH (fun W (hW:Below w.heap.size w W)=>Same_any a.e ex0 v (.slice none 0 0) W (hs.at hW hW.size) (SubAt.nil _ _))
 have hql:(quoteL a.t).length<=1000000:=by have:=(dbl_length a.t).2;have:=hf.2.1;unfold quoteL;simp;omega
 have HU:=LH (fun W (hW:GWL W)=>quote_any a.t W hW.2 (by have:=hf.2.1;omega))
 have HV:=LH (fun W (hW:GWL W)=>unquote_any (quoteL a.t) W hW.2 hql)
 have HR:Hid (rightA d op a=(sameE a.e ex0 && !a.mem && op == sDB && (unquote (quoteL a.t)).2 == 0)):=LH (by unfold rightA emptyA;rw [if_neg (by simp [hw]),if_pos hi])
 generalize rightA d op a=res at *
 obtain ⟨A,c,rfl,hc,hm⟩:=hs.form
 clear hs hc hm hf hql
 obtain ⟨aw,at1,ais,amem,ae⟩:=a
 simp only at hw hi
 subst hw hi
 unfold arV
 simp only at *
 generalize sameE ae ex0=se at *
 generalize unquote (quoteL at1)=uq at *
 generalize quoteL at1=ql at *
 obtain ⟨us,uk⟩:=uq
 generalize ae.sub.length=sl at *
 obtain ⟨o,n,m,s⟩:=ae
 simp only [Ex.op,Ex.n,Ex.name,ex0] at *
 have hk:((uk:Int) == 0)=(uk == 0):=by cases uk <;> rfl
 have key:(se=true/\amem=false/\op=sDB/\uk=0)∨(se=true/\amem=false/\op=sDB/\uk≠0)∨(se=true/\amem=false/\op≠sDB)∨(se=true/\amem=true)∨(se=false/\amem=true)∨(se=false/\amem=false):=by
  by_cases h1:op=sDB <;> by_cases h2:uk=0 <;> cases se <;> cases amem <;> simp [h1,h2]
 have walk:∀ (b:Bool) (hres:res=b),Calls Tryz.prog 102 #[.int .i64 d,.string ⟨op.toArray⟩,.agg #[.string ⟨#[]⟩,.string ⟨at1.toArray⟩,.bool true,.bool amem,.string ⟨o.toArray⟩,.int .u16 n,.string ⟨m.toArray⟩,.slice A sl c]] w fun e w'=>e=.returned (.bool b)/\Below w.heap.size w w':=by
  intro b hres
  have HRes:=LH hres
  clear hres
  rcases key with ⟨rfl,rfl,rfl,rfl⟩ | ⟨rfl,rfl,rfl,h⟩ | ⟨rfl,rfl,h⟩ | ⟨rfl,rfl⟩ | ⟨rfl,rfl⟩ | ⟨rfl,rfl⟩
  ·have HB:Hid (b=true):=LH (by rw [← HRes.out,HR.out];simp)
   clear hk
   go_enter Tryz.func102, Tryz.ntmps102
   go_wp2_with fail
   refine (HQ.out _ (((Below.refl _ _).alloc (Nat.le_refl _) _).alloc (by simp) _)).mono ?_
   rintro e w1 ⟨rfl,hb1⟩
   obtain ⟨C0,C1,B1⟩:=boxes hb1
   have hgw:=LH (hg.below B1)
   obtain ⟨c0,c1,c2,c3,c4,c5,c6,c7⟩:=cells8 C1
   have HB1:=LH B1
   clear C0 C1 hb1 B1
   go_wp2_with fail
   refine (HU.out _ hgw.out).mono ?_
   rintro e w2 ⟨rfl,hb2⟩
   go_wp2_with fail
   refine (HV.out _ (hgw.out.below hb2)).mono ?_
   rintro e w3 ⟨rfl,hb3⟩
   go_wp2_with fail
   go_ret
   rw [HB.out]
   exact ⟨rfl,bthen (bthen HB1.out hb2) hb3⟩
  ·have HB:Hid (b=false):=LH (by rw [← HRes.out,HR.out];simp [h])
   have e1:((uk:Int) == 0)=false:=by rw [beq_eq_false_iff_ne];omega
   clear hk h
   go_enter Tryz.func102, Tryz.ntmps102
   go_wp2_with fail
   refine (HQ.out _ (((Below.refl _ _).alloc (Nat.le_refl _) _).alloc (by simp) _)).mono ?_
   rintro e w1 ⟨rfl,hb1⟩
   obtain ⟨C0,C1,B1⟩:=boxes hb1
   have hgw:=LH (hg.below B1)
   obtain ⟨c0,c1,c2,c3,c4,c5,c6,c7⟩:=cells8 C1
   have HB1:=LH B1
   clear C0 C1 hb1 B1
   go_wp2_with fail
   refine (HU.out _ hgw.out).mono ?_
   rintro e w2 ⟨rfl,hb2⟩
   go_wp2_with fail
   refine (HV.out _ (hgw.out.below hb2)).mono ?_
   rintro e w3 ⟨rfl,hb3⟩
   go_wp2_with fail
   go_ret
   rw [HB.out]
   exact ⟨rfl,bthen (bthen HB1.out hb2) hb3⟩
  ·have HB:Hid (b=false):=LH (by rw [← HRes.out,HR.out];simp [h])
   have e1:(op == [68,66])=false:=by simpa using h
   clear hk h
   go_enter Tryz.func102, Tryz.ntmps102
   go_wp2_with fail
   refine (HQ.out _ (((Below.refl _ _).alloc (Nat.le_refl _) _).alloc (by simp) _)).mono ?_
   rintro e w1 ⟨rfl,hb1⟩
   obtain ⟨C0,C1,B1⟩:=boxes hb1
   have hgw:=LH (hg.below B1)
   obtain ⟨c0,c1,c2,c3,c4,c5,c6,c7⟩:=cells8 C1
   have HB1:=LH B1
   clear C0 C1 hb1 B1
   go_wp2_with fail
   refine (HU.out _ hgw.out).mono ?_
   rintro e w2 ⟨rfl,hb2⟩
   go_wp2_with fail
   refine (HV.out _ (hgw.out.below hb2)).mono ?_
   rintro e w3 ⟨rfl,hb3⟩
   go_wp2_with fail
   go_ret
   rw [HB.out]
   exact ⟨rfl,bthen (bthen HB1.out hb2) hb3⟩
  all_goals (
   have HB:Hid (b=false):=LH (by rw [← HRes.out,HR.out];simp)
   clear hk
   go_enter Tryz.func102, Tryz.ntmps102
   go_wp2_with fail
   refine (HQ.out _ (((Below.refl _ _).alloc (Nat.le_refl _) _).alloc (by simp) _)).mono ?_
   rintro e w1 ⟨rfl,hb1⟩
   obtain ⟨C0,C1,B1⟩:=boxes hb1
   have hgw:=LH (hg.below B1)
   obtain ⟨c0,c1,c2,c3,c4,c5,c6,c7⟩:=cells8 C1
   have HB1:=LH B1
   clear C0 C1 hb1 B1
   go_wp2_with fail
   refine (HU.out _ hgw.out).mono ?_
   rintro e w2 ⟨rfl,hb2⟩
   go_wp2_with fail
   refine (HV.out _ (hgw.out.below hb2)).mono ?_
   rintro e w3 ⟨rfl,hb3⟩
   go_wp2_with fail
   go_ret
   rw [HB.out]
   exact ⟨rfl,bthen (bthen HB1.out hb2) hb3⟩)
 exact walk res rfl
theorem right12_expr (d:Int) (op:List UInt8) (a:Ar) (v:Value) (w:World) (hg:GWL w) (hw:a.w = []) (hi:a.is=false) (hf:fitA a) (hs:SubAt w (· < w.heap.size) v a.e.sub) :
  Calls Tryz.prog 102 #[.int .i64 d,.string ⟨op.toArray⟩,arV a v] w fun e w'=>e=.returned (.bool (rightA d op a))/\Below w.heap.size w w':=by
 have HQ:=LH (fun W (hW:Below w.heap.size w W)=>Same_any a.e ex0 v (.slice none 0 0) W (hs.at hW hW.size) (SubAt.nil _ _))
 have HE:=LH (fun W (hW:Below w.heap.size w W)=>Right_any a.e v W hf.2.2 (hs.at hW hW.size))
 have HN:=LH (fun (hr:rightE a.e 24=true) W (hW:Below w.heap.size w W)=>Names_any a.e 24 v W (by omega) hr (hs.at hW hW.size))
 have HL:=LH (fun (hr:rightE a.e 24=true)=>names_len a.e 24 hr)
 have HX:=LH (fun (hr:rightE a.e 24=true)=>names_short a.e 24 hr)
 have HR:Hid (rightA d op a=if a.t≠[]∨(a.mem=true/\d=0)∨rightE a.e 24=false then false else (namesE a.e).all (plainB d)):=LH (by unfold rightA;rw [if_neg (by simp [hw]),if_neg (by simp [hi])])
 have HK:Hid (rightK a.e=if rightE a.e 24 then 0 else 2):=LH rfl
 generalize rightA d op a=res at *
 obtain ⟨A,c,rfl,hc,hm⟩:=hs.form
 clear hs hc hm hf
 obtain ⟨aw,at1,ais,amem,ae⟩:=a
 simp only at hw hi
 subst hw hi
 unfold arV
 simp only at *
 generalize sameE ae ex0=se at *
 generalize rightE ae 24=re at *
 generalize rightK ae=rk at *
 generalize namesE ae=ns at *
 generalize ae.sub.length=sl at *
 obtain ⟨o,n,m,s⟩:=ae
 simp only [Ex.op,Ex.n,Ex.name,ex0] at *
 have start:∀ (Q:Ending->World->Prop),True:=fun _=>trivial
 clear start
 cases hat:at1 with
 | cons x r=>
  have HB:Hid (res=false):=LH (by rw [HR.out,hat];simp)
  clear hat HR
  cases se <;> cases amem
  all_goals (
   go_enter Tryz.func102, Tryz.ntmps102
   go_wp2_with fail
   refine (HQ.out _ (((Below.refl _ _).alloc (Nat.le_refl _) _).alloc (by simp) _)).mono ?_
   rintro e w1 ⟨rfl,hb1⟩
   obtain ⟨C0,C1,B1⟩:=boxes hb1
   obtain ⟨c0,c1,c2,c3,c4,c5,c6,c7⟩:=cells8 C1
   have HB1:=LH B1
   clear C0 C1 hb1 B1
   go_wp2_with fail
   go_ret
   rw [HB.out]
   exact ⟨rfl,HB1.out⟩)
 | nil=>
  subst hat
  by_cases hmd:amem=true/\d=0
  ·obtain ⟨rfl,rfl⟩:=hmd
   have HB:Hid (res=false):=LH (by rw [HR.out];simp)
   clear HR
   cases se
   all_goals (
    go_enter Tryz.func102, Tryz.ntmps102
    go_wp2_with fail
    refine (HQ.out _ (((Below.refl _ _).alloc (Nat.le_refl _) _).alloc (by simp) _)).mono ?_
    rintro e w1 ⟨rfl,hb1⟩
    obtain ⟨C0,C1,B1⟩:=boxes hb1
    have d0:=coh (i:=0) C0
    simp at d0
    obtain ⟨c0,c1,c2,c3,c4,c5,c6,c7⟩:=cells8 C1
    have HB1:=LH B1
    clear C0 C1 hb1 B1
    go_wp2_with fail
    go_ret
    rw [HB.out]
    exact ⟨rfl,HB1.out⟩)
  ·have hnm:amem=true->(d == 0)=false:=fun h=>by rw [beq_eq_false_iff_ne];exact fun h2=>hmd ⟨h,h2⟩
   cases re with
   | false=>
    have HB:Hid (res=false):=LH (by rw [HR.out];simp)
    have hrk:rk=2:=HK.out
    subst hrk
    clear HR hmd HK HN HL HX
    cases se <;> cases amem
    all_goals (
     first | have hd0:=hnm rfl | skip
     clear hnm
     go_enter Tryz.func102, Tryz.ntmps102
     go_wp2_with fail
     refine (HQ.out _ (((Below.refl _ _).alloc (Nat.le_refl _) _).alloc (by simp) _)).mono ?_
     rintro e w1 ⟨rfl,hb1⟩
     obtain ⟨C0,C1,B1⟩:=boxes hb1
     have d0:=coh (i:=0) C0
     simp at d0
     obtain ⟨c0,c1,c2,c3,c4,c5,c6,c7⟩:=cells8 C1
     have HB1:=LH B1
     clear C0 C1 hb1 B1
     go_wp2_with fail
     refine (HE.out _ HB1.out).mono ?_
     rintro e w2 ⟨rfl,hb2⟩
     go_wp2_with fail
     go_ret
     rw [HB.out]
     exact ⟨rfl,bthen HB1.out hb2⟩)
   | true=>
    have HB:Hid (res=ns.all (plainB d)):=LH (by rw [HR.out,if_neg];simp;exact fun h h2=>hmd ⟨h,h2⟩)
    have hrk:rk=0:=HK.out
    have hnl:=HL.out rfl
    have HX2:=LH (fun x hx=>Nat.le_trans (HX.out rfl x hx) (show 16<=1000000 by omega))
    have HN2:=LH (HN.out rfl)
    subst hrk
    have HA:=LH (fun v bm W h1 h2 h4=>ncont_any d ns v bm W h1 h2 HX2.out (by omega) h4)
    generalize ns.all (plainB d)=nb at *
    clear HR hmd HK HN HL HX hnl
    cases se <;> cases amem
    all_goals (
     first | have hd0:=hnm rfl | skip
     clear hnm
     go_enter Tryz.func102, Tryz.ntmps102
     go_wp2_with fail
     refine (HQ.out _ (((Below.refl _ _).alloc (Nat.le_refl _) _).alloc (by simp) _)).mono ?_
     rintro e w1 ⟨rfl,hb1⟩
     obtain ⟨C0,C1,B1⟩:=boxes hb1
     have d0:=coh (i:=0) C0
     simp at d0
     have hgw:=LH (hg.below B1)
     obtain ⟨c0,c1,c2,c3,c4,c5,c6,c7⟩:=cells8 C1
     have HB1:=LH B1
     have HC0:=LH C0
     have HC1:=LH C1
     clear C0 C1 hb1 B1
     go_wp2_with fail
     refine (HE.out _ HB1.out).mono ?_
     rintro e w2 ⟨rfl,hb2⟩
     have HB2:=LH (bthen HB1.out hb2)
     have HD0:=LH ((hb2.block _ (loh HC0.out)).trans HC0.out)
     have HD1:=LH ((hb2.block _ (loh HC1.out)).trans HC1.out)
     have hgw2:=LH (hgw.out.below hb2)
     clear d0 c0 c1 c2 c3 c4 c5 c6 c7 hb2
     obtain ⟨c0,c1,c2,c3,c4,c5,c6,c7⟩:=cells8 HD1.out
     go_wp2_with fail
     refine (HN2.out _ HB2.out).mono ?_
     rintro e w3 ⟨v3,rfl,hr3,hb3⟩
     have d3:=coh (i:=0) ((hb3.block _ (loh HD0.out)).trans HD0.out)
     simp at d3
     have HC3:=LH (HA.out v3 w.heap.size w3 (hgw2.out.below hb3) hr3 d3)
     obtain ⟨A3,k3,rfl,_⟩:=hr3.form
     clear hr3 c0 c1 c2 c3 c4 c5 c6 c7
     go_wp2_with fail
     refine HC3.out.mono ?_
     rintro e w4 ⟨rfl,hb4⟩
     go_wp2_with fail
     go_ret
     rw [HB.out]
     exact ⟨by simp,bthen (bthen HB2.out hb3) hb4⟩)
theorem right12_any (d:Int) (op:List UInt8) (a:Ar) (v:Value) (w:World) (hg:GWL w) (hf:fitA a) (hs:SubAt w (· < w.heap.size) v a.e.sub) :
  Calls Tryz.prog 102 #[.int .i64 d,.string ⟨op.toArray⟩,arV a v] w fun e w'=>e=.returned (.bool (rightA d op a))/\Below w.heap.size w w':=by
 by_cases h1:a.w = []
 ·cases h2:a.is with
  | true=>exact right12_text d op a v w hg h1 h2 hf hs
  | false=>exact right12_expr d op a v w hg h1 h2 hf hs
 ·exact right12_word d op a v w hg h1 hs
def fitS (s:St):Prop:=s.label.length<=1000/\s.op.length<=1000/\∀ a∈s.args,fitA a
theorem cells4 {w:World} {b:Nat} {x0 x1 x2 x3:Value} {t:TypeId} {fr:Nat × Nat} (h:w.heap[b]? = some (.cells #[x0,x1,x2,x3] t fr)) :
  w.cell? ⟨b,0,none⟩=some x0/\w.cell? ⟨b,1,none⟩=some x1/\w.cell? ⟨b,2,none⟩=some x2/\w.cell? ⟨b,3,none⟩=some x3:=⟨coh h,coh h,coh h,coh h⟩
theorem raclo_any (d:Int) (op:List UInt8) (a:Ar) (v:Value) (bd bs:Nat) (w:World) (hg:GWL w) (hf:fitA a) (hs:SubAt w (· < w.heap.size) v a.e.sub) (hm:w.cell? ⟨bd,0,none⟩=some (.int .i64 d)) (ho:w.cell? ⟨bs,2,none⟩=some (.string ⟨op.toArray⟩)) :
  Calls Tryz.prog 101 #[arV a v,.pointer (some ⟨bd,0,none⟩),.pointer (some ⟨bs,0,none⟩)] w fun e w'=>e=.returned (.bool (!rightA d op a))/\Below w.heap.size w w':=by
 have h1:=World.block_lt_of_cell? _ _ hm
 have h2:=World.block_lt_of_cell? _ _ ho
 have HC:=LH (fun o=>right12_any d op a v (w.alloc o) (hg.below ((Below.refl _ _).alloc (Nat.le_refl _) _)) hf (hs.at ((Below.refl _ _).alloc (Nat.le_refl _) o) (by simp)))
 obtain ⟨A,c,rfl,_,_⟩:=hs.form
 generalize rightA d op a=rb at *
 obtain ⟨aw,at1,ais,amem,ae⟩:=a
 unfold arV at *
 simp only at *
 clear hs
 go_enter Tryz.func101, Tryz.ntmps101
 go_wp2_with fail
 refine (HC.out _).mono ?_
 rintro e w2 ⟨rfl,hb2⟩
 go_wp2_with fail
 go_ret
 exact ⟨rfl,bthen ((Below.refl _ _).alloc (Nat.le_refl _) _) hb2⟩
theorem aidx_any (d:Int) (op:List UInt8) (l:List Ar) (v:Value) (bd bs:Nat) (w:World) (hg:GWL w) (hf:∀ a∈l,fitA a) (hs:ArAt w (· < w.heap.size) v l) (hm:w.cell? ⟨bd,0,none⟩=some (.int .i64 d)) (ho:w.cell? ⟨bs,2,none⟩=some (.string ⟨op.toArray⟩)) :
  Calls Tryz.prog 74 #[v,.func (.func 101) #[] #[.pointer (some ⟨bd,0,none⟩),.pointer (some ⟨bs,0,none⟩)]] w fun e w'=>(∃ z:Int,e=.returned (.int .i64 z)/\decide (0<=z) = !l.all (rightA d op))/\Below w.heap.size w w':=by
 obtain ⟨A,c,rfl,hc,hm2⟩:=hs.form
 unfold maxLen at hm2
 have h1:=World.block_lt_of_cell? _ _ hm
 have h2:=World.block_lt_of_cell? _ _ ho
 have HS:=LH hs
 have HM:=LH hm
 have HO:=LH ho
 have HF:=LH hf
 have HALLN:Hid (∀ k (hk:k<l.length),rightA d op l[k]=false->l.all (rightA d op)=false):=LH (fun k hk h=>by rw [List.all_eq_false];exact ⟨l[k],List.getElem_mem hk,by simp [h]⟩)
 have HALLY:Hid ((l.take l.length).all (rightA d op)=true->l.all (rightA d op)=true):=LH (fun h=>by rwa [List.take_length] at h)
 generalize l.all (rightA d op)=rl at *
 clear hs hm ho hf
 go_enter Tryz.func74, Tryz.ntmps74
 go_wp2_with fail
 go_loopw [8] (fun i wr=>∃ k:Nat,k<=l.length/\i=.int .i64 k/\(l.take k).all (rightA d op)=true/\Below w.heap.size w wr) (fun i _=>l.length - (intOf i).toNat)
 case atStart=>exact ⟨0,Nat.zero_le _,rfl,rfl,Below.refl _ _⟩
 case round=>
  obtain ⟨k,hk,rfl,hall,hb⟩:=hrel
  have hsz:=hb.size
  have HALL:=LH hall
  clear hall
  by_cases hlt:k<l.length
  ·obtain ⟨g,q,vk,rfl,hgl,c0,c1,c2,c3,c4,c5,c6,c7,hsub⟩:=HS.out.get k hlt
   obtain ⟨vA,vc,rfl,_,_⟩:=hsub.form
   have d0:=(hb.cell (p:=⟨g,q+k * 8,none⟩) hgl).trans c0
   have d1:=(hb.cell (p:=⟨g,q+k * 8+1,none⟩) hgl).trans c1
   have d2:=(hb.cell (p:=⟨g,q+k * 8+2,none⟩) hgl).trans c2
   have d3:=(hb.cell (p:=⟨g,q+k * 8+3,none⟩) hgl).trans c3
   have d4:=(hb.cell (p:=⟨g,q+k * 8+4,none⟩) hgl).trans c4
   have d5:=(hb.cell (p:=⟨g,q+k * 8+5,none⟩) hgl).trans c5
   have d6:=(hb.cell (p:=⟨g,q+k * 8+6,none⟩) hgl).trans c6
   have d7:=(hb.cell (p:=⟨g,q+k * 8+7,none⟩) hgl).trans c7
   have HC:=LH (raclo_any d op l[k] _ bd bs wr (hg.below hb) (HF.out _ (List.getElem_mem hlt)) (hsub.at hb hsz) ((hb.cell (p:=⟨bd,0,none⟩) h1).trans HM.out) ((hb.cell (p:=⟨bs,2,none⟩) h2).trans HO.out))
   have HT:Hid ((l.take (k+1)).all (rightA d op)=((l.take k).all (rightA d op) && rightA d op l[k])):=LH (by rw [List.take_succ_eq_append_getElem hlt,List.all_append];simp)
   have HN:=LH (HALLN.out k hlt)
   generalize l[k]=x at *
   clear c0 c1 c2 c3 c4 c5 c6 c7 hsub
   cases hp:rightA d op x with
   | true=>
    rw [hp] at HC HT
    clear hp
    go_wp2_with fail
    refine HC.out.mono ?_
    rintro e0 w5 ⟨rfl,hb5⟩
    go_wp2_with fail
    go_roundw
    case rel=>exact ⟨k+1,by omega,by go_num,by rw [HT.out,HALL.out];rfl,bthen hb hb5⟩
    case measure=>simp [intOf];omega
   | false=>
    rw [hp] at HC
    have hrl:=HN.out hp
    clear hp HN
    subst hrl
    go_wp2_with fail
    refine HC.out.mono ?_
    rintro e0 w5 ⟨rfl,hb5⟩
    go_wp2_with fail
    go_ret
    exact ⟨⟨_,rfl,by simp⟩,bthen hb hb5⟩
  ·obtain rfl:k=l.length:=by omega
   have hrl:=HALLY.out HALL.out
   subst hrl
   go_wp2_with fail
   go_ret
   exact ⟨⟨_,rfl,by simp⟩,hb⟩
theorem acont_any (d:Int) (op:List UInt8) (l:List Ar) (v:Value) (bd bs:Nat) (w:World) (hg:GWL w) (hf:∀ a∈l,fitA a) (hs:ArAt w (· < w.heap.size) v l) (hm:w.cell? ⟨bd,0,none⟩=some (.int .i64 d)) (ho:w.cell? ⟨bs,2,none⟩=some (.string ⟨op.toArray⟩)) :
  Calls Tryz.prog 37 #[v,.func (.func 101) #[] #[.pointer (some ⟨bd,0,none⟩),.pointer (some ⟨bs,0,none⟩)]] w fun e w'=>e=.returned (.bool (!l.all (rightA d op)))/\Below w.heap.size w w':=by
 have HI:=LH (aidx_any d op l v bd bs w hg hf hs hm ho)
 obtain ⟨A,c,rfl,hc⟩:=hs.form
 generalize l.all (rightA d op)=rl at *
 clear hs hm ho hf
 go_enter Tryz.func37, Tryz.ntmps37
 go_wp2_with fail
 refine HI.out.mono ?_
 rintro e w2 ⟨⟨z,rfl,hz⟩,hb2⟩
 have HZ:=LH hz
 clear hz
 go_wp2_with fail
 go_ret
 exact ⟨ret_bool HZ.out,hb2⟩
theorem getD_get (ts:List Tok) (i:Nat) (h:i<ts.length):ts.getD i tok0=ts[i]:=by simp [h]
theorem tname_any (ts:List Tok) (i:Int) (hi:0<=i) (v:Value) (w:World) (hr:Rd w w.heap.size v ts.length (tokRow ts)) :
  Calls Tryz.prog 64 #[v,.int .i64 i] w fun e w'=>e=.returned (.bool (nameT ts i.toNat))/\w=w':=by
 obtain ⟨A,c,rfl,hc⟩:=hr.form
 obtain ⟨k,rfl⟩:=Int.eq_ofNat_of_zero_le hi
 rw [Int.toNat_natCast]
 by_cases hlt:k<ts.length
 ·obtain ⟨g,o,rfl,hg,c0,c1,c2⟩:=hr.tok k hlt
  have HN:Hid (nameT ts k=decide (ts[k].1=1)):=LH (by unfold nameT;rw [getD_get ts k hlt];simp [hlt])
  have hlt':(k:Int)<(ts.length:Int):=by omega
  generalize nameT ts k=res at *
  generalize ts[k]=t at *
  obtain ⟨tk,tS,tn⟩:=t
  simp only at *
  by_cases h1:tk=1
  ·subst h1
   have HB:=LH (show res=true by rw [HN.out];rfl)
   clear hr HN
   go_enter Tryz.func64, Tryz.ntmps64
   go_wp2_with fail
   go_ret
   rw [HB.out]
   exact ⟨rfl,rfl⟩
  ·have HB:=LH (show res=false by rw [HN.out];simp [h1])
   have e1:(tk == 1)=false:=by simpa using h1
   clear hr HN h1
   go_enter Tryz.func64, Tryz.ntmps64
   go_wp2_with fail
   go_ret
   rw [HB.out]
   exact ⟨rfl,rfl⟩
 ·have HN:=LH (show nameT ts k=false by unfold nameT;simp [hlt])
  have hd:decide ((k:Int)<(ts.length:Int))=false:=by simp;omega
  have hd2:decide (k<ts.length)=false:=by simpa using hlt
  generalize nameT ts k=res at *
  clear hr hlt
  go_enter Tryz.func64, Tryz.ntmps64
  go_wp2_with fail
  go_ret
  rw [HN.out]
  exact ⟨rfl,rfl⟩
theorem tmark_any (ts:List Tok) (i:Int) (hi:0<=i) (s:List UInt8) (v:Value) (w:World) (hr:Rd w w.heap.size v ts.length (tokRow ts)) :
  Calls Tryz.prog 65 #[v,.int .i64 i,.string ⟨s.toArray⟩] w fun e w'=>e=.returned (.bool (markT ts i.toNat s))/\w=w':=by
 obtain ⟨A,c,rfl,hc⟩:=hr.form
 obtain ⟨k,rfl⟩:=Int.eq_ofNat_of_zero_le hi
 rw [Int.toNat_natCast]
 have hd0:decide (0<=(k:Int))=true:=by simp
 by_cases hlt:k<ts.length
 ·obtain ⟨g,o,rfl,hg,c0,c1,c2⟩:=hr.tok k hlt
  have HN:Hid (markT ts k s=(decide (ts[k].1=4) && decide (ts[k].2.1=s))):=LH (by unfold markT;rw [getD_get ts k hlt];simp [hlt])
  have hlt':(k:Int)<(ts.length:Int):=by omega
  generalize markT ts k s=res at *
  generalize ts[k]=t at *
  obtain ⟨tk,tS,tn⟩:=t
  simp only at *
  by_cases h1:tk=4
  ·subst h1
   by_cases h2:tS=s
   ·subst h2
    have HB:=LH (show res=true by rw [HN.out];simp)
    clear hr HN
    go_enter Tryz.func65, Tryz.ntmps65
    go_wp2_with fail
    go_ret
    rw [HB.out]
    exact ⟨rfl,rfl⟩
   ·have HB:=LH (show res=false by rw [HN.out];simp [h2])
    have e1:(tS == s)=false:=by simpa using h2
    clear hr HN h2
    go_enter Tryz.func65, Tryz.ntmps65
    go_wp2_with fail
    go_ret
    rw [HB.out]
    exact ⟨rfl,rfl⟩
  ·have HB:=LH (show res=false by rw [HN.out];simp [h1])
   have e1:(tk == 4)=false:=by simpa using h1
   clear hr HN h1
   go_enter Tryz.func65, Tryz.ntmps65
   go_wp2_with fail
   go_ret
   rw [HB.out]
   exact ⟨rfl,rfl⟩
 ·have HN:=LH (show markT ts k s=false by unfold markT;simp [hlt])
  have hd:decide ((k:Int)<(ts.length:Int))=false:=by simp;omega
  have hd2:decide (k<ts.length)=false:=by simpa using hlt
  generalize markT ts k s=res at *
  clear hr hlt
  go_enter Tryz.func65, Tryz.ntmps65
  go_wp2_with fail
  go_ret
  rw [HN.out]
  exact ⟨rfl,rfl⟩
theorem pd_bound (o c:List UInt8) (t:Tok) (n:Int):n - 1<=pd o c t n/\pd o c t n<=n+1:=by
 unfold pd
 split
 ·omega
 ·split <;> omega
theorem drop_two (ts:List Tok) (k:Nat) (h:k+1<ts.length):ts.drop k=ts[k] :: ts[k+1] :: ts.drop (k+2):=by
 rw [List.drop_eq_getElem_cons (by omega),List.drop_eq_getElem_cons h]
theorem pair_step (o c:List UInt8) (ts:List Tok) (k:Nat) (n:Int) (h:k+1<ts.length):pairF o c (ts.drop k) n=if pd o c ts[k] n=0 then false else pairF o c (ts.drop (k+1)) (pd o c ts[k] n):=by
 rw [drop_two ts k h,show ts.drop (k+1)=ts[k+1] :: ts.drop (k+2) from List.drop_eq_getElem_cons h]
 rfl
theorem pair_last (o c:List UInt8) (ts:List Tok) (n:Int) (h:1<=ts.length):pairF o c (ts.drop (ts.length - 1)) n=true:=by
 have e:ts.drop (ts.length - 1) = [ts[ts.length - 1]]:=by
  rw [List.drop_eq_getElem_cons (by omega),List.drop_of_length_le (by omega)]
 rw [e]
 rfl
theorem markT_get (ts:List Tok) (k:Nat) (h:k<ts.length) (s:List UInt8):markT ts k s=(decide (ts[k].1=4) && decide (ts[k].2.1=s)):=by
 unfold markT
 rw [getD_get ts k h]
 simp [h]
theorem pd_mark (o c:List UInt8) (ts:List Tok) (k:Nat) (h:k<ts.length) (n:Int):pd o c ts[k] n=if markT ts k o=true then n+1 else if markT ts k c=true then n - 1 else n:=by
 rw [markT_get ts k h,markT_get ts k h]
 unfold pd
 simp
theorem pair_any (ts:List Tok) (o c:List UInt8) (v:Value) (w:World) (hr:Rd w w.heap.size v ts.length (tokRow ts)) (hl:ts.length<=1000) :
  Calls Tryz.prog 116 #[v,.string ⟨o.toArray⟩,.string ⟨c.toArray⟩] w fun e w'=>e=.returned (.bool (pairT ts o c))/\w=w':=by
 have HM:=LH (fun i hi s=>tmark_any ts i hi s v w hr)
 obtain ⟨A,cp,rfl,hc⟩:=hr.form
 have HP:Hid (pairT ts o c=(decide (2<=ts.length) && markT ts 0 o && markT ts (ts.length - 1) c && pairF o c ts 0)):=LH rfl
 generalize pairT ts o c=res at *
 clear hr
 by_cases h2:2<=ts.length
 ·have hlx:((ts.length:Int) - 1).toNat=ts.length - 1:=by omega
  have M0:=LH (HM.out 0 (by omega) o)
  have M1:=LH (HM.out ((ts.length:Int) - 1) (by omega) c)
  rw [hlx] at M1
  rw [show (0:Int).toNat=0 from rfl] at M0
  cases hm0:markT ts 0 o with
  | false=>
   have HB:=LH (show res=false by rw [HP.out,hm0];simp)
   rw [hm0] at M0
   clear hm0 HP HM hlx
   go_enter Tryz.func116, Tryz.ntmps116
   go_wp2_with fail
   refine M0.out.mono ?_
   rintro e w' ⟨rfl,rfl⟩
   go_wp2_with fail
   go_ret
   rw [HB.out]
   exact ⟨rfl,rfl⟩
  | true=>
   rw [hm0] at M0
   cases hm1:markT ts (ts.length - 1) c with
   | false=>
    have HB:=LH (show res=false by rw [HP.out,hm1];simp)
    rw [hm1] at M1
    clear hm0 hm1 HP HM hlx
    go_enter Tryz.func116, Tryz.ntmps116
    go_wp2_with fail
    refine M0.out.mono ?_
    rintro e w' ⟨rfl,rfl⟩
    go_wp2_with fail
    refine M1.out.mono ?_
    rintro e w' ⟨rfl,rfl⟩
    go_wp2_with fail
    go_ret
    rw [HB.out]
    exact ⟨rfl,rfl⟩
   | true=>
    have HB:=LH (show res=pairF o c (ts.drop 0) 0 by rw [HP.out,hm0,hm1];simp [h2])
    rw [hm1] at M1
    clear hm0 hm1 HP hlx
    go_enter Tryz.func116, Tryz.ntmps116
    go_wp2_with fail
    refine M0.out.mono ?_
    rintro e w' ⟨rfl,rfl⟩
    go_wp2_with fail
    refine M1.out.mono ?_
    rintro e w' ⟨rfl,rfl⟩
    go_wp2_with fail
    go_loop [7,33] (fun dp i=>∃ (k:Nat) (n:Int),k+1<=ts.length/\i=.int .i64 k/\dp=.int .i64 n/\-(k:Int)<=n/\n<=(k:Int)/\res=pairF o c (ts.drop k) n) (fun _ i=>ts.length - (intOf i).toNat)
    case atStart=>exact ⟨0,0,by omega,rfl,rfl,by omega,by omega,HB.out⟩
    case round=>
     obtain ⟨k,n,hk,rfl,rfl,hn1,hn2,hres⟩:=hrel
     have HRES:=LH hres
     clear hres
     by_cases hlt:k+1<ts.length
     ·have hlt':(k:Int)<(ts.length:Int) - 1:=by omega
      have hst:=HRES.out.trans (pair_step o c ts k n hlt)
      have hpd:=pd_mark o c ts k (by omega) n
      have hbd:=pd_bound o c ts[k] n
      have K0:=LH (HM.out (k:Int) (by omega) o)
      have K1:=LH (HM.out (k:Int) (by omega) c)
      rw [Int.toNat_natCast] at K0 K1
      generalize markT ts k o=m0 at *
      generalize markT ts k c=m1 at *
      generalize pd o c ts[k] n=p at *
      have HST:=LH hst
      have HPD:=LH hpd
      clear hst hpd
      have fin:∀ q:Int,p=q->(q=0->res=false)/\(q≠0->res=pairF o c (ts.drop (k+1)) q):=fun q hq=>by
       subst hq
       exact ⟨fun h=>by rw [HST.out,if_pos h],fun h=>by rw [HST.out,if_neg h]⟩
      have HF:=LH fin
      clear fin
      cases m0 with
      | true=>
       have hp:p=n+1:=by have:=HPD.out;simpa using this
       have hf:=HF.out _ hp
       by_cases hz:n+1=0
       ·have HZ:=LH (hf.1 hz)
        obtain rfl:n = -1:=by omega
        clear hp hf
        go_wp2_with fail
        refine K0.out.mono ?_
        rintro e w' ⟨rfl,rfl⟩
        go_wp2_with fail
        go_ret
        rw [HZ.out]
        exact ⟨rfl,rfl⟩
       ·have HZ:=LH (hf.2 hz)
        have e0:(n+1 == 0)=false:=by simpa using hz
        clear hp hf hz
        go_wp2_with fail
        refine K0.out.mono ?_
        rintro e w' ⟨rfl,rfl⟩
        go_wp2_with fail
        go_round
        case rel=>exact ⟨k+1,n+1,by omega,by go_num,rfl,by omega,by omega,HZ.out⟩
        case measure=>simp [intOf];omega
      | false=>
       cases m1 with
       | true=>
        have hp:p=n - 1:=by have:=HPD.out;simpa using this
        have hf:=HF.out _ hp
        by_cases hz:n - 1=0
        ·have HZ:=LH (hf.1 hz)
         obtain rfl:n=1:=by omega
         clear hp hf
         go_wp2_with fail
         refine K0.out.mono ?_
         rintro e w' ⟨rfl,rfl⟩
         go_wp2_with fail
         refine K1.out.mono ?_
         rintro e w' ⟨rfl,rfl⟩
         go_wp2_with fail
         go_ret
         rw [HZ.out]
         exact ⟨rfl,rfl⟩
        ·have HZ:=LH (hf.2 hz)
         have e0:(n - 1 == 0)=false:=by simpa using hz
         clear hp hf hz
         go_wp2_with fail
         refine K0.out.mono ?_
         rintro e w' ⟨rfl,rfl⟩
         go_wp2_with fail
         refine K1.out.mono ?_
         rintro e w' ⟨rfl,rfl⟩
         go_wp2_with fail
         go_round
         case rel=>exact ⟨k+1,n - 1,by omega,by go_num,rfl,by omega,by omega,HZ.out⟩
         case measure=>simp [intOf];omega
       | false=>
        have hp:p=n:=by have:=HPD.out;simpa using this
        have hf:=HF.out _ hp
        by_cases hz:n=0
        ·have HZ:=LH (hf.1 hz)
         subst hz
         clear hp hf
         go_wp2_with fail
         refine K0.out.mono ?_
         rintro e w' ⟨rfl,rfl⟩
         go_wp2_with fail
         refine K1.out.mono ?_
         rintro e w' ⟨rfl,rfl⟩
         go_wp2_with fail
         go_ret
         rw [HZ.out]
         exact ⟨rfl,rfl⟩
        ·have HZ:=LH (hf.2 hz)
         have e0:(n == 0)=false:=by simpa using hz
         clear hp hf hz
         go_wp2_with fail
         refine K0.out.mono ?_
         rintro e w' ⟨rfl,rfl⟩
         go_wp2_with fail
         refine K1.out.mono ?_
         rintro e w' ⟨rfl,rfl⟩
         go_wp2_with fail
         go_round
         case rel=>exact ⟨k+1,n,by omega,by go_num,rfl,by omega,by omega,HZ.out⟩
         case measure=>simp [intOf];omega
     ·have hnl:¬ (k:Int)<(ts.length:Int) - 1:=by omega
      obtain rfl:k=ts.length - 1:=by omega
      have hr2:=HRES.out.trans (pair_last o c ts n (by omega))
      subst hr2
      go_wp2_with fail
      go_ret
      exact ⟨rfl,rfl⟩
 ·have HB:=LH (show res=false by rw [HP.out];simp [h2])
  have hd:decide ((ts.length:Int)<2)=true:=by simp;omega
  have hd':(ts.length:Int)<2:=by omega
  clear HP HM
  go_enter Tryz.func116, Tryz.ntmps116
  go_wp2_with fail
  go_ret
  rw [HB.out]
  exact ⟨rfl,rfl⟩
def OperP (w:World) (res:Ar × Nat) (e:Ending) (w':World):Prop:=
 ∃ v,e=.returned (.tuple #[arV res.1 v,.int .i64 res.2])/\SubAt w' (fun g=>w.heap.size<=g/\g<w'.heap.size) v res.1.e.sub/\Below w.heap.size w w'
abbrev rdBox (v:Value) (d:Int):Obj:=.cells #[v,.int .i64 d] 150
abbrev arBox:Obj:=.cells #[.string ⟨#[]⟩,.string ⟨#[]⟩,.bool false,.bool false,.string ⟨#[]⟩,.int .u16 0,.string ⟨#[]⟩,.slice none 0 0] 72
theorem SubAt.set {w:World} {S:Nat->Prop} {v:Value} {s:List Ex} {b:Nat} (h:SubAt w S v s) (hS:∀ g,S g->g≠b) (i:Nat) (u:Value):SubAt (w.setCell ⟨b,i,none⟩ u) S v s:=
 h.keep (fun p hp=>World.cell?_of_block (Below.heap_setCell w ⟨b,i,none⟩ u p.block (hS _ hp))) (fun _ h=>h)
theorem oper_nil (d:Int) (op:List UInt8) (v:Value) (w:World) (hr:Rd w w.heap.size v 0 []) :
  Calls Tryz.prog 68 #[.agg #[v,.int .i64 d],.string ⟨op.toArray⟩] w (OperP w (ar0,2)):=by
 obtain ⟨A,c,rfl,hc⟩:=hr.form
 clear hr
 go_enter Tryz.func68, Tryz.ntmps68
 go_wp2_with fail
 exact bodyPost_ret (v:=.tuple #[.agg #[.string ⟨#[]⟩,.string ⟨#[]⟩,.bool false,.bool false,.string ⟨#[]⟩,.int .u16 0,.string ⟨#[]⟩,.slice none 0 0],.int .i64 2]) (by simp [results,Tryz.results68,go_sem]) rfl ⟨_,rfl,SubAt.nil _ _,((Below.refl _ _).alloc (Nat.le_refl _) _).alloc (by simp) _⟩
theorem oper_text (d:Int) (t:List UInt8) (n:Nat) (v:Value) (w:World) (hr:Rd w w.heap.size v 1 (tokRow [(3,t,n)])) :
  Calls Tryz.prog 68 #[.agg #[v,.int .i64 d],.string ⟨#[68,66]⟩] w (OperP w (⟨[],t,true,false,ex0⟩,0)):=by
 obtain ⟨A,c,rfl,hc⟩:=hr.form
 obtain ⟨g,o,rfl,hg,c0,c1,c2⟩:=hr.tok (ts:=[(3,t,n)]) 0 (by simp)
 simp at c0 c1 c2
 clear hr
 go_enter Tryz.func68, Tryz.ntmps68
 go_wp2_with fail
 exact bodyPost_ret (v:=.tuple #[.agg #[.string ⟨#[]⟩,.string ⟨t.toArray⟩,.bool true,.bool false,.string ⟨#[]⟩,.int .u16 0,.string ⟨#[]⟩,.slice none 0 0],.int .i64 0]) (by simp [results,Tryz.results68,go_sem]) rfl ⟨_,rfl,SubAt.nil _ _,((Below.refl _ _).alloc (Nat.le_refl _) _).alloc (by simp) _⟩
theorem eight {w:World} {b:Nat} {x0 x1 x2 x3 x4 x5 x6 x7:Value} {t:TypeId} (h:w.heap[b]? = some (.cells #[x0,x1,x2,x3,x4,x5,x6,x7] t (0,0))) :
  (w.cell? ⟨b,0,none⟩=some x0/\w.cell? ⟨b,1,none⟩=some x1/\w.cell? ⟨b,2,none⟩=some x2/\w.cell? ⟨b,3,none⟩=some x3/\w.cell? ⟨b,4,none⟩=some x4/\w.cell? ⟨b,5,none⟩=some x5/\w.cell? ⟨b,6,none⟩=some x6/\w.cell? ⟨b,7,none⟩=some x7) /\
  w.frozen? ⟨b,0,none⟩=false/\w.frozen? ⟨b,1,none⟩=false/\w.frozen? ⟨b,2,none⟩=false/\w.frozen? ⟨b,3,none⟩=false/\w.frozen? ⟨b,4,none⟩=false/\w.frozen? ⟨b,5,none⟩=false/\w.frozen? ⟨b,6,none⟩=false/\w.frozen? ⟨b,7,none⟩=false:=by
 refine ⟨cells8 h,?_,?_,?_,?_,?_,?_,?_,?_⟩ <;> (rw [foh h];rfl)
theorem bset8 {w w':World} {b N:Nat} (h:Below N w w') (hb:N<=b) (u0 u1 u2 u3 u4 u5 u6 u7:Value):Below N w ((((((((w'.setCell ⟨b,0,none⟩ u0).setCell ⟨b,1,none⟩ u1).setCell ⟨b,2,none⟩ u2).setCell ⟨b,3,none⟩ u3).setCell ⟨b,4,none⟩ u4).setCell ⟨b,5,none⟩ u5).setCell ⟨b,6,none⟩ u6).setCell ⟨b,7,none⟩ u7):=
 (((((((h.setCell hb _).setCell hb _).setCell hb _).setCell hb _).setCell hb _).setCell hb _).setCell hb _).setCell hb _
theorem oper_word (d:Int) (op:List UInt8) (m:List UInt8) (n:Nat) (v:Value) (w:World) (hg:GWL w) (hwd:wordB d m=true) (hr:Rd w w.heap.size v 1 (tokRow [(1,m,n)])) :
  Calls Tryz.prog 68 #[.agg #[v,.int .i64 d],.string ⟨op.toArray⟩] w (OperP w (⟨m,[],false,false,ex0⟩,0)):=by
 have HN:=LH (fun W (hW:Below w.heap.size w W)=>tname_any [(1,m,n)] 0 (by omega) v W ((hr.below hW).more hW.size))
 have HW:=LH (fun W (hW:GWL W)=>word12_any d m W hW)
 rw [hwd] at HW
 rw [show nameT [(1,m,n)] (0:Int).toNat=true from rfl] at HN
 obtain ⟨A,c,rfl,hc⟩:=hr.form
 obtain ⟨g,o,rfl,hgl,c0,c1,c2⟩:=hr.tok (ts:=[(1,m,n)]) 0 (by simp)
 simp at c0 c1 c2
 have B0:=LH (((Below.refl w.heap.size w).alloc (Nat.le_refl _) (rdBox (.slice (some ⟨g,o,none⟩) 1 c) d)).alloc (by simp) arBox)
 have G0:=LH (hg.below B0.out)
 clear hr hwd
 go_enter Tryz.func68, Tryz.ntmps68
 go_wp2_with fail
 first | (go_region_with (first | (go_at_call 64;refine (HN.out _ ?_).mono ?_;exact B0.out.drew;rintro e1 w2 ⟨rfl,rfl⟩) | (go_at_call 115;refine (HW.out _ ?_).mono ?_;exact G0.out.below (Below.refl _ _).drew;rintro e1 w3 ⟨rfl,hb3⟩))) | fail
 all_goals (
  obtain ⟨C0,C1,B1⟩:=boxes ((Below.refl _ _).drew.trans hb3)
  obtain ⟨⟨k0,k1,k2,k3,k4,k5,k6,k7⟩,g0,g1,g2,g3,g4,g5,g6,g7⟩:=eight C1
  have HB1:=LH B1
  have c1':=(B1.cell (p:=⟨g,o+1,none⟩) hgl).trans c1
  clear C0 C1 B1 hb3 c1
  go_wp2_with fail
  exact bodyPost_ret (v:=.tuple #[.agg #[.string ⟨m.toArray⟩,.string ⟨#[]⟩,.bool false,.bool false,.string ⟨#[]⟩,.int .u16 0,.string ⟨#[]⟩,.slice none 0 0],.int .i64 0]) (by simp [results,Tryz.results68,go_sem,k0,k1,k2,k3,k4,k5,k6,k7]) rfl ⟨_,rfl,SubAt.nil _ _,bset8 HB1.out (by omega) _ _ _ _ _ _ _ _⟩)
theorem SubAt.set8 {w:World} {S:Nat->Prop} {v:Value} {s:List Ex} {b:Nat} (h:SubAt w S v s) (hS:∀ g,S g->g≠b) (u0 u1 u2 u3 u4 u5 u6 u7:Value):SubAt ((((((((w.setCell ⟨b,0,none⟩ u0).setCell ⟨b,1,none⟩ u1).setCell ⟨b,2,none⟩ u2).setCell ⟨b,3,none⟩ u3).setCell ⟨b,4,none⟩ u4).setCell ⟨b,5,none⟩ u5).setCell ⟨b,6,none⟩ u6).setCell ⟨b,7,none⟩ u7) S v s:=
 (((((((h.set hS _ _).set hS _ _).set hS _ _).set hS _ _).set hS _ _).set hS _ _).set hS _ _).set hS _ _
theorem SubAt.newer {w:World} {S S':Nat->Prop} {v:Value} {s:List Ex} (h:SubAt w S v s) (hl:∀ g,S g->g<w.heap.size) (hS:∀ g,S g->S' g) (o:Obj):SubAt (w.alloc o) S' v s:=h.keep (fun _ hp=>World.cell?_alloc_lt _ _ _ (hl _ hp)) hS
theorem tokRow_app (a b:List Tok):tokRow (a++b)=tokRow a++tokRow b:=by simp [tokRow]
theorem mid_len (ts:List Tok) (h:2<=ts.length):(midT ts).length=ts.length - 2:=by simp [midT];omega
theorem Rd.mid {w:World} {B c g o:Nat} {ts:List Tok} (h:Rd w B (.slice (some ⟨g,o,none⟩) ts.length c) ts.length (tokRow ts)) (h2:2<=ts.length):Rd w B (.slice (some ⟨g,o+3,none⟩) (ts.length - 2) (c - 1)) (midT ts).length (tokRow (midT ts)):=by
 obtain ⟨A',c',hv,hc,h3⟩:=h
 injection hv with hv1 _ hv3
 subst hv1 hv3
 obtain ⟨g',o',h4,h5,h6⟩:=h3 (by omega)
 injection h4 with h4
 injection h4 with h4 h4' _
 subst h4 h4'
 refine ⟨_,c - 1,by rw [mid_len ts h2],by rw [mid_len ts h2];omega,fun _=>⟨g,o+3,rfl,h5,fun j u hu=>?_⟩⟩
 have e:ts=ts.take 1++(midT ts++ts.drop (ts.length - 1)):=by
  have e1:midT ts++ts.drop (ts.length - 1)=ts.drop 1:=by
   unfold midT
   have:ts.drop (ts.length - 1)=(ts.drop 1).drop (ts.length - 2):=by rw [List.drop_drop];congr 1;omega
   rw [this,List.take_append_drop]
  rw [e1,List.take_append_drop]
 have hj:j<(tokRow (midT ts)).length:=(List.getElem?_eq_some_iff.1 hu).1
 have hu':(tokRow ts)[3+j]? = some u:=by
  rw [e,tokRow_app,tokRow_app,List.getElem?_append_right (by rw [tokRow_length];simp;omega),tokRow_length]
  rw [show 3+j - (ts.take 1).length * 3=j by simp;omega,List.getElem?_append_left hj]
  exact hu
 have:=h6 (3+j) u hu'
 rwa [show o+3+j=o+(3+j) by omega]
theorem oper_m1 (op:List UInt8) (ts:List Tok) (v:Value) (w:World) (h2:2<=ts.length) (hl:ts.length<=1000) (hok:okT ts) (hp:pairT ts [40] [41]=false) (hr:Rd w w.heap.size v ts.length (tokRow ts)) :
  Calls Tryz.prog 68 #[.agg #[v,.int .i64 1],.string ⟨op.toArray⟩] w (OperP w (⟨[],[],false,false,(allE ts).1⟩,(allE ts).2)):=by
 have HP:=LH (fun W (hW:Below w.heap.size w W)=>pair_any ts [40] [41] v W ((hr.below hW).more hW.size) hl)
 rw [hp] at HP
 clear hp
 have HAll:=LH (fun W (hW:Below w.heap.size w W)=>all_any ts v W ((hr.below hW).more hW.size) hl hok)
 generalize allE ts=out at *
 obtain ⟨re,rk⟩:=out
 obtain ⟨A,c,rfl,hc⟩:=hr.form
 have HBw:=LH (((Below.refl w.heap.size w).alloc (Nat.le_refl _) (rdBox (.slice A ts.length c) 1)).alloc (by simp) arBox)
 have hnew:=heap_alloc_new (w.alloc (rdBox (.slice A ts.length c) 1)) arBox
 rw [show (w.alloc (rdBox (.slice A ts.length c) 1)).heap.size=w.heap.size+1 by simp] at hnew
 have HC1:=LH hnew
 have e0:((ts.length:Int) == 0)=false:=by rw [beq_eq_false_iff_ne];omega
 have e1:(1:Int)<(ts.length:Int):=by omega
 clear hr hok hnew
 go_enter Tryz.func68, Tryz.ntmps68
 go_wp2_with fail
 refine (HP.out _ HBw.out).mono ?_
 rintro e w4 ⟨rfl,rfl⟩
 go_wp2_with fail
 refine (HAll.out _ HBw.out).mono ?_
 rintro e w5 ⟨vs,rfl,hsub,hok,hb5⟩
 obtain ⟨sA,sc,rfl,hsc,hsm⟩:=hsub.form
 obtain ⟨⟨k0,k1,k2,k3,k4,k5,k6,k7⟩,g0,g1,g2,g3,g4,g5,g6,g7⟩:=eight ((hb5.block _ (loh HC1.out)).trans HC1.out)
 have hH:w.heap.size+1<w5.heap.size:=Nat.lt_of_lt_of_le (loh HC1.out) hb5.size
 have HB5:=LH (bthen (HBw.out) hb5)
 have HSUB:Hid (SubAt w5 (fun g=>w.heap.size+2<=g/\g<w5.heap.size) (.slice sA re.sub.length sc) re.sub):=LH (hsub.more (fun g hg=>⟨Nat.le_trans (loh HC1.out) hg.1,hg.2⟩))
 clear hsub hb5 hok
 go_wp2_with fail
 refine bodyPost_ret (v:=.tuple #[.agg #[.string ⟨#[]⟩,.string ⟨#[]⟩,.bool false,.bool false,.string ⟨re.op.toArray⟩,.int .u16 re.n,.string ⟨re.name.toArray⟩,.slice sA re.sub.length sc],.int .i64 rk]) (by simp [results,Tryz.results68,go_sem,k0,k1,k2,k3,k4,k5,k6,k7,hH]) rfl ⟨_,rfl,?_,?_⟩
 ·exact (HSUB.out.set8 (b:=w.heap.size+1) (fun g hg=>by omega) _ _ _ _ _ _ _ _).newer (fun g hg=>by simpa using hg.2) (fun g hg=>⟨by omega,by simp;omega⟩) _
 ·exact (bset8 HB5.out (by omega) _ _ _ _ _ _ _ _).alloc (by simpa using HB5.out.size) _
theorem oper_m2 (op:List UInt8) (ts:List Tok) (v:Value) (w:World) (h2:2<=ts.length) (hl:ts.length<=1000) (hok:okT ts) (hp:pairT ts [91] [93]=false) (hr:Rd w w.heap.size v ts.length (tokRow ts)) :
  Calls Tryz.prog 68 #[.agg #[v,.int .i64 2],.string ⟨op.toArray⟩] w (OperP w (⟨[],[],false,false,(allE ts).1⟩,(allE ts).2)):=by
 have HP:=LH (fun W (hW:Below w.heap.size w W)=>pair_any ts [91] [93] v W ((hr.below hW).more hW.size) hl)
 rw [hp] at HP
 clear hp
 have HAll:=LH (fun W (hW:Below w.heap.size w W)=>all_any ts v W ((hr.below hW).more hW.size) hl hok)
 generalize allE ts=out at *
 obtain ⟨re,rk⟩:=out
 obtain ⟨A,c,rfl,hc⟩:=hr.form
 have HBw:=LH (((Below.refl w.heap.size w).alloc (Nat.le_refl _) (rdBox (.slice A ts.length c) 2)).alloc (by simp) arBox)
 have hnew:=heap_alloc_new (w.alloc (rdBox (.slice A ts.length c) 2)) arBox
 rw [show (w.alloc (rdBox (.slice A ts.length c) 2)).heap.size=w.heap.size+1 by simp] at hnew
 have HC1:=LH hnew
 have e0:((ts.length:Int) == 0)=false:=by rw [beq_eq_false_iff_ne];omega
 have e1:(1:Int)<(ts.length:Int):=by omega
 clear hr hok hnew
 go_enter Tryz.func68, Tryz.ntmps68
 go_wp2_with fail
 refine (HP.out _ HBw.out).mono ?_
 rintro e w4 ⟨rfl,rfl⟩
 go_wp2_with fail
 refine (HAll.out _ HBw.out).mono ?_
 rintro e w5 ⟨vs,rfl,hsub,hok,hb5⟩
 obtain ⟨sA,sc,rfl,hsc,hsm⟩:=hsub.form
 obtain ⟨⟨k0,k1,k2,k3,k4,k5,k6,k7⟩,g0,g1,g2,g3,g4,g5,g6,g7⟩:=eight ((hb5.block _ (loh HC1.out)).trans HC1.out)
 have hH:w.heap.size+1<w5.heap.size:=Nat.lt_of_lt_of_le (loh HC1.out) hb5.size
 have HB5:=LH (bthen (HBw.out) hb5)
 have HSUB:Hid (SubAt w5 (fun g=>w.heap.size+2<=g/\g<w5.heap.size) (.slice sA re.sub.length sc) re.sub):=LH (hsub.more (fun g hg=>⟨Nat.le_trans (loh HC1.out) hg.1,hg.2⟩))
 clear hsub hb5 hok
 go_wp2_with fail
 refine bodyPost_ret (v:=.tuple #[.agg #[.string ⟨#[]⟩,.string ⟨#[]⟩,.bool false,.bool false,.string ⟨re.op.toArray⟩,.int .u16 re.n,.string ⟨re.name.toArray⟩,.slice sA re.sub.length sc],.int .i64 rk]) (by simp [results,Tryz.results68,go_sem,k0,k1,k2,k3,k4,k5,k6,k7,hH]) rfl ⟨_,rfl,?_,?_⟩
 ·exact (HSUB.out.set8 (b:=w.heap.size+1) (fun g hg=>by omega) _ _ _ _ _ _ _ _).newer (fun g hg=>by simpa using hg.2) (fun g hg=>⟨by omega,by simp;omega⟩) _
 ·exact (bset8 HB5.out (by omega) _ _ _ _ _ _ _ _).alloc (by simpa using HB5.out.size) _
theorem oper_mo (d:Int) (op:List UInt8) (ts:List Tok) (v:Value) (w:World) (h2:2<=ts.length) (hl:ts.length<=1000) (hok:okT ts) (hd1:(d == 1)=false) (hd2:(d == 2)=false) (hr:Rd w w.heap.size v ts.length (tokRow ts)) :
  Calls Tryz.prog 68 #[.agg #[v,.int .i64 d],.string ⟨op.toArray⟩] w (OperP w (⟨[],[],false,false,(allE ts).1⟩,(allE ts).2)):=by
 have HAll:=LH (fun W (hW:Below w.heap.size w W)=>all_any ts v W ((hr.below hW).more hW.size) hl hok)
 generalize allE ts=out at *
 obtain ⟨re,rk⟩:=out
 obtain ⟨A,c,rfl,hc⟩:=hr.form
 have HBw:=LH (((Below.refl w.heap.size w).alloc (Nat.le_refl _) (rdBox (.slice A ts.length c) d)).alloc (by simp) arBox)
 have hnew:=heap_alloc_new (w.alloc (rdBox (.slice A ts.length c) d)) arBox
 rw [show (w.alloc (rdBox (.slice A ts.length c) d)).heap.size=w.heap.size+1 by simp] at hnew
 have HC1:=LH hnew
 have e0:((ts.length:Int) == 0)=false:=by rw [beq_eq_false_iff_ne];omega
 have e1:(1:Int)<(ts.length:Int):=by omega
 clear hr hok hnew
 go_enter Tryz.func68, Tryz.ntmps68
 go_wp2_with fail
 refine (HAll.out _ HBw.out).mono ?_
 rintro e w5 ⟨vs,rfl,hsub,hok,hb5⟩
 obtain ⟨sA,sc,rfl,hsc,hsm⟩:=hsub.form
 obtain ⟨⟨k0,k1,k2,k3,k4,k5,k6,k7⟩,g0,g1,g2,g3,g4,g5,g6,g7⟩:=eight ((hb5.block _ (loh HC1.out)).trans HC1.out)
 have hH:w.heap.size+1<w5.heap.size:=Nat.lt_of_lt_of_le (loh HC1.out) hb5.size
 have HB5:=LH (bthen (HBw.out) hb5)
 have HSUB:Hid (SubAt w5 (fun g=>w.heap.size+2<=g/\g<w5.heap.size) (.slice sA re.sub.length sc) re.sub):=LH (hsub.more (fun g hg=>⟨Nat.le_trans (loh HC1.out) hg.1,hg.2⟩))
 clear hsub hb5 hok
 go_wp2_with fail
 refine bodyPost_ret (v:=.tuple #[.agg #[.string ⟨#[]⟩,.string ⟨#[]⟩,.bool false,.bool false,.string ⟨re.op.toArray⟩,.int .u16 re.n,.string ⟨re.name.toArray⟩,.slice sA re.sub.length sc],.int .i64 rk]) (by simp [results,Tryz.results68,go_sem,k0,k1,k2,k3,k4,k5,k6,k7,hH]) rfl ⟨_,rfl,?_,?_⟩
 ·exact (HSUB.out.set8 (b:=w.heap.size+1) (fun g hg=>by omega) _ _ _ _ _ _ _ _).newer (fun g hg=>by simpa using hg.2) (fun g hg=>⟨by omega,by simp;omega⟩) _
 ·exact (bset8 HB5.out (by omega) _ _ _ _ _ _ _ _).alloc (by simpa using HB5.out.size) _
end Go.Proofs.YtbdnbfacalfciaaGreatDoor
