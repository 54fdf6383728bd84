/- Ko. -/
import Derived.Test.YtagplldaooipmaaGreatDoorKh
import Derived.Test.YtagplldaooipmaaGreatDoorKb
import Derived.Test.YtagplldaooipmaaGreatDoorKd
import Derived.Test.YtagplldaooipmaaGreatDoorKn
import Derived.Deep.RegionWith
import Derived.Test.YtagplldaooipmaaGreatDoorKe
import Derived.IntWalk
import Derived.RegionTactic
import Derived.BigRegion
namespace Go.Proofs.YtagplldaooipmaaGreatDoor
open Go.RowKit
theorem namesL_app (a b:List Ex):namesL (a ++ b)=namesL a ++ namesL b:=by
 induction a with
 | nil=>rfl
 | cons x a ih=>simp [namesL,ih]
theorem names_len (e:Ex):∀ d,rightE e d=true → (namesE e).length ≤ 2 ^ d:=by
 induction e using Ex.ind with
 | h o n m s ih=>
  intro d h
  have hf:=rightE.form h
  cases hf with
  | num=>simp [namesE,namesL]
  | name m d=>have:=Nat.one_le_two_pow (n:=d + 1);simpa [namesE,namesL] using this
  | here=>simp [namesE,namesL]
  | neg a d hA=>have:=ih a (by simp) d hA;simp [namesE,namesL,Nat.pow_succ];omega
  | not a d hA=>have:=ih a (by simp) d hA;simp [namesE,namesL,Nat.pow_succ];omega
  | two o r a b d ho h1 h2=>
   have:=ih a (by simp) d h1
   have:=ih b (by simp) d h2
   have hn:=ho.binds.2.2.1
   simp [namesE,namesL,Nat.pow_succ,hn]
   omega
theorem namesL_take (s:List Ex) (k:Nat):(namesL (s.take k)).length ≤ (namesL s).length:=by
 have:namesL s=namesL (s.take k) ++ namesL (s.drop k):=by rw [← namesL_app,List.take_append_drop]
 rw [this]
 simp
def NamesH (x:Ex):Prop:=∀ (d:Nat) (v:Value) (w:World),d ≤ 24 → rightE x d=true → SubAt w (· < w.heap.size) v x.sub →
 Calls Tryz.prog 59 #[.agg #[.string ⟨x.op.toArray⟩,.int .u16 x.n,.string ⟨x.name.toArray⟩,v]] w fun e w'=>∃ v',e=.returned v'∧Rd w' w'.heap.size v' (namesE x).length ((namesE x).map strV)∧Below w.heap.size w w'
set_option maxHeartbeats 2000000 in
theorem names_leaf (m:List UInt8) (n:Nat) (v:Value) (w:World) (hs:SubAt w (· < w.heap.size) v []) :
  Calls Tryz.prog 59 #[.agg #[.string ⟨#[110]⟩,.int .u16 n,.string ⟨m.toArray⟩,v]] w fun e w'=>∃ v',e=.returned v'∧Rd w' w'.heap.size v' 1 [.string ⟨m.toArray⟩]∧Below w.heap.size w w':=by
 obtain ⟨A,c,rfl,hc,hm⟩:=hs.form
 have hb:=(Below.refl w.heap.size w).alloc (Nat.le_refl _) (.cells #[.string ⟨#[110]⟩,.int .u16 n,.string ⟨m.toArray⟩,.slice A 0 c] 39)
 have hn:=heap_alloc_new w (.cells #[.string ⟨#[110]⟩,.int .u16 n,.string ⟨m.toArray⟩,.slice A 0 c] 39)
 have HN:=Lib.hid hn
 clear hs hn
 go_enter Tryz.func59, Tryz.ntmps59
 go_wp2_with (at_builtin;refine wpList_append_at (w.alloc (.cells #[.string ⟨#[110]⟩,.int .u16 n,.string ⟨m.toArray⟩,.slice A 0 c] 39)) (w.heap.size + 1) (by simp) rfl _ _ 81 rfl (w.heap.size + 1) 9 _ 1 16 Tryz.underlying81 info_str rfl (by decide) (World.ownsRow_nil _ _ _ _) rfl [.string ⟨m.toArray⟩] 9 rfl rfl (one_str _) (by omega) (by omega) (by simp) ?_)
 intro v' w2 hown3 hb3
 have hb4:=Lib.hid (hb.trans (hb3.mono (Nat.le_succ _)))
 have c3:w2.cell? ⟨w.heap.size,3,none⟩=some (.slice A 0 c):=(hb3.cell (p:=⟨w.heap.size,3,none⟩) (Nat.lt_succ_self _)).trans (cell_of_heap HN.out)
 have HO:=Lib.hid (Rd.of_own hown3)
 clear hown3 hb3 hb
 go_wp2_with fail
 go_loop [2,16] (fun o i=>o=v'∧i=.int .i64 0) (fun _ _=>0)
 case atStart=>exact ⟨rfl,rfl⟩
 case round=>
  obtain ⟨rfl,rfl⟩:=hrel
  go_wp2_with fail
  go_ret
  exact ⟨_,rfl,HO.out,hb4.out⟩
set_option maxHeartbeats 4000000 in
theorem names_node (o:List UInt8) (n:Nat) (m:List UInt8) (s:List Ex) (ho:(o == [110])=false) (d:Nat) (hd:d ≤ 24) (hr:∀ x ∈ s,rightE x d=true) (hlen:(namesL s).length ≤ 100000000) (ih:∀ x ∈ s,NamesH x) (v:Value) (w:World) (hs:SubAt w (· < w.heap.size) v s) :
  Calls Tryz.prog 59 #[.agg #[.string ⟨o.toArray⟩,.int .u16 n,.string ⟨m.toArray⟩,v]] w fun e w'=>∃ v',e=.returned v'∧Rd w' w'.heap.size v' (namesL s).length ((namesL s).map strV)∧Below w.heap.size w w':=by
 obtain ⟨A,c,rfl,hc,hm⟩:=hs.form
 unfold maxLen at hm
 have HS:=Lib.hid hs
 have HI:=Lib.hid ih
 have HR:=Lib.hid hr
 clear hs ih hr
 go_enter Tryz.func59, Tryz.ntmps59
 go_wp2_with fail
 go_loopw [2,16] (fun v i wr=>∃ k:Nat,k ≤ s.length∧i=.int .i64 k∧wr.ownsRow (w.heap.size + 1) 9 1 v (namesL (s.take k)).length ((namesL (s.take k)).map strV)∧Below w.heap.size w wr∧w.heap.size + 1 ≤ wr.heap.size) (fun _ i _=>s.length - (intOf i).toNat)
 case atStart=>exact ⟨0,Nat.zero_le _,rfl,World.ownsRow_nil _ _ _ _,(Below.refl _ _).alloc (Nat.le_refl _) _,by simp⟩
 case round=>
  obtain ⟨k,hk,rfl,hown,hb,hz⟩:=hrel
  have hsz:=hb.size
  by_cases hlt:k < s.length
  ·obtain ⟨g,q,vk,rfl,hg,c0,c1,c2,c3,hsub,hn,_,_⟩:=HS.out.get k hlt
   obtain ⟨vA,vc,rfl,_,_⟩:=hsub.form
   have d0:=(hb.cell (p:=⟨g,q + k * 4,none⟩) hg).trans c0
   have d1:=(hb.cell (p:=⟨g,q + k * 4 + 1,none⟩) hg).trans c1
   have d2:=(hb.cell (p:=⟨g,q + k * 4 + 2,none⟩) hg).trans c2
   have d3:=(hb.cell (p:=⟨g,q + k * 4 + 3,none⟩) hg).trans c3
   have hgr:g < wr.heap.size:=Nat.lt_of_lt_of_le hg hsz
   have HSK:=Lib.hid ((hsub.bel hb).more (S':=(· < wr.heap.size)) (fun x hx=>Nat.lt_of_lt_of_le hx hsz))
   have HC:Hid (∀ o1,Calls Tryz.prog 59 #[.agg #[.string ⟨s[k].op.toArray⟩,.int .u16 s[k].n,.string ⟨s[k].name.toArray⟩,.slice vA s[k].sub.length vc]] (wr.alloc o1) fun e w'=>∃ v',e=.returned v'∧Rd w' w'.heap.size v' (namesE s[k]).length ((namesE s[k]).map strV)∧Below (wr.alloc o1).heap.size (wr.alloc o1) w'):=Lib.hid (fun o1=>HI.out s[k] (List.getElem_mem hlt) d _ _ hd (HR.out _ (List.getElem_mem hlt)) (HSK.out.keep (fun p hp=>World.cell?_alloc_lt _ _ _ hp) (fun x hx=>by simp;omega)))
   have HT:Hid (namesL (s.take (k + 1))=namesL (s.take k) ++ namesE s[k]):=Lib.hid (by rw [List.take_succ_eq_append_getElem hlt,namesL_app];simp [namesL])
   have hl1:=Nat.le_trans (namesL_take s (k + 1)) hlen
   rw [HT.out,List.length_append] at hl1
   generalize s[k]=x at *
   clear c0 c1 c2 c3 hsub
   go_wp2_with fail
   refine (HC.out _).mono ?_
   rintro e0 w5 ⟨v5,rfl,hrd5,hb5⟩
   obtain ⟨A5,c5,rfl,hc5⟩:=hrd5.form
   have hown2:=(hown.alloc (.cells #[.string ⟨x.op.toArray⟩,.int .u16 x.n,.string ⟨x.name.toArray⟩,.slice vA x.sub.length vc] 39)).kept (only_of_below hb5 none) (by cases u2.ownBlock <;> simp)
   have hb6:=bthen (hb.alloc hsz _) hb5
   have hz6:w.heap.size + 1 ≤ w5.heap.size:=by have:=hb5.size;simp at this;omega
   go_wp2_with (at_builtin;refine wpList_append_rd w5 rfl _ _ 81 rfl (w.heap.size + 1) 9 _ 1 16 Tryz.underlying81 info_str rfl (by decide) hown2 rfl hrd5 rfl (by simp) (strs_one _) (by omega) (by omega) hz6 ?_)
   intro v' w7 hown7 hb7 hgr7
   have H7:Hid (w7.ownsRow (w.heap.size + 1) 9 1 v' (namesL (s.take (k + 1))).length ((namesL (s.take (k + 1))).map strV)):=Lib.hid (by rw [HT.out,List.map_append,List.length_append];exact hown7)
   have hb8:=hb6.trans (hb7.mono (Nat.le_succ _))
   have hz8:w.heap.size + 1 ≤ w7.heap.size:=Nat.le_trans hz6 hb7.size
   clear hown hown2 hown7 hgr7 hb7 hb6 hrd5
   go_wp2_with fail
   go_roundw
   case rel=>exact ⟨k + 1,by omega,by go_num,H7.out,hb8,hz8⟩
   case measure=>simp [intOf];omega
  ·obtain rfl:k=s.length:=by omega
   rw [List.take_length] at hown
   have HO:=Lib.hid (Rd.of_own hown)
   clear hown
   go_wp2_with fail
   go_ret
   exact ⟨_,rfl,HO.out,hb⟩
theorem Names_any (e:Ex):NamesH e:=by
 induction e using Ex.ind with
 | h o n m s ih=>
  intro d v w hd h hs
  have hl:=names_len _ d h
  have hp:2 ^ d ≤ 2 ^ 24:=Nat.pow_le_pow_right (by omega) hd
  have hf:=rightE.form h
  cases hf with
  | num n d=>exact names_node sNum n [] [] (by decide) d (by omega) (by simp) (by simp [namesL]) (by simp) v w hs
  | name m d=>exact names_leaf m 0 v w hs
  | here d=>exact names_node sHere 0 [] [] (by decide) d (by omega) (by simp) (by simp [namesL]) (by simp) v w hs
  | neg a d hA=>exact names_node sNEG 0 [] [a] (by decide) d (by omega) (by simpa using hA) (by simp [namesE] at hl;omega) ih v w hs
  | not a d hA=>exact names_node sNOT 0 [] [a] (by decide) d (by omega) (by simpa using hA) (by simp [namesE] at hl;omega) ih v w hs
  | two o r a b d ho h1 h2=>
   have hn:=ho.binds.2.2.1
   have e1:namesE (.mk o 0 [] [a,b])=namesL [a,b]:=by simp [namesE,hn]
   have:=names_node o 0 [] [a,b] (by simpa using hn) d (by omega) (by simp [h1,h2]) (by rw [e1] at hl;omega) ih v w hs
   rw [e1]
   exact this
end Go.Proofs.YtagplldaooipmaaGreatDoor
/- line: the names of an operand are plain. -/
namespace Go.Proofs.YtagplldaooipmaaGreatDoor
open Go.RowKit
theorem Rd.str {w:World} {B c:Nat} {A:Option Addr} {xs:List (List UInt8)} (h:Rd w B (.slice A xs.length c) xs.length (xs.map strV)) (k:Nat) (hk:k < xs.length):∃ g o,A=some ⟨g,o,none⟩∧g < B∧w.cell? ⟨g,o + k,none⟩=some (.string ⟨xs[k].toArray⟩):=by
 obtain ⟨A',c',hv,hc,h3⟩:=h
 injection hv with hv _ _
 subst hv
 obtain ⟨g,o,g1,g2,g3⟩:=h3 (by omega)
 exact ⟨g,o,g1,g2,g3 k _ (by simp [hk,strV])⟩
set_option maxHeartbeats 1000000 in
theorem rnclo_any (d:Int) (x:List UInt8) (bm:Nat) (w:World) (hg:GWL w) (hl:x.length ≤ 1000000) (hm:w.cell? ⟨bm,0,none⟩=some (.int .i64 d)) :
  Calls Tryz.prog 60 #[.string ⟨x.toArray⟩,.pointer (some ⟨bm,0,none⟩)] w fun e w'=>e=.returned (.bool (!plainB d x))∧Below w.heap.size w w':=by
 have HC:=Lib.hid (Plain_any d x w hl hg)
 generalize plainB d x=pb at *
 go_enter Tryz.func60, Tryz.ntmps60
 go_wp2_with fail
 refine HC.out.mono ?_
 rintro e w2 ⟨rfl,hb2⟩
 go_wp2_with fail
 go_ret
 exact ⟨rfl,hb2⟩
set_option maxHeartbeats 2000000 in
theorem nidx_any (d:Int) (xs:List (List UInt8)) (v:Value) (bm:Nat) (w:World) (hg:GWL w) (hr:Rd w w.heap.size v xs.length (xs.map strV)) (hx:∀ x ∈ xs,x.length ≤ 1000000) (hl:xs.length ≤ 1000000000) (hm:w.cell? ⟨bm,0,none⟩=some (.int .i64 d)) :
  Calls Tryz.prog 102 #[v,.func (.func 60) #[] #[.pointer (some ⟨bm,0,none⟩)]] w fun e w'=>(∃ z:Int,e=.returned (.int .i64 z)∧decide (0 ≤ z) = !xs.all (plainB d))∧Below w.heap.size w w':=by
 obtain ⟨A,c,rfl,hc⟩:=hr.form
 have hltm:=World.block_lt_of_cell? _ _ hm
 have HS:=Lib.hid hr
 have HM:=Lib.hid hm
 have HX:=Lib.hid hx
 have HRL:Hid (xs.all (plainB d)=xs.all (plainB d)):=Lib.hid rfl
 have HALLN:Hid (∀ k (hk:k < xs.length),plainB d xs[k]=false → xs.all (plainB d)=false):=Lib.hid (fun k hk h=>by rw [List.all_eq_false];exact ⟨xs[k],List.getElem_mem hk,by simp [h]⟩)
 have HALLY:Hid ((xs.take xs.length).all (plainB d)=true → xs.all (plainB d)=true):=Lib.hid (fun h=>by rwa [List.take_length] at h)
 generalize xs.all (plainB d)=rl at *
 clear hr hm hx HRL
 go_enter Tryz.func102, Tryz.ntmps102
 go_wp2_with fail
 go_loopw [8] (fun i wr=>∃ k:Nat,k ≤ xs.length∧i=.int .i64 k∧(xs.take k).all (plainB d)=true∧Below w.heap.size w wr) (fun i _=>xs.length - (intOf i).toNat)
 case atStart=>exact ⟨0,Nat.zero_le _,rfl,rfl,Below.refl _ _⟩
 case round=>
  obtain ⟨k,hk,rfl,hall,hb⟩:=hrel
  have HALL:=Lib.hid hall
  clear hall
  by_cases hlt:k < xs.length
  ·obtain ⟨g,q,rfl,hgl,c0⟩:=HS.out.str k hlt
   have d0:=(hb.cell (p:=⟨g,q + k,none⟩) hgl).trans c0
   have HC:=Lib.hid (rnclo_any d xs[k] bm wr (hg.below hb) (HX.out _ (List.getElem_mem hlt)) ((hb.cell (p:=⟨bm,0,none⟩) hltm).trans HM.out))
   have HT:Hid ((xs.take (k + 1)).all (plainB d)=((xs.take k).all (plainB d) && plainB d xs[k])):=Lib.hid (by rw [List.take_succ_eq_append_getElem hlt,List.all_append];simp)
   have HN:=Lib.hid (HALLN.out k hlt)
   generalize xs[k]=x at *
   clear c0
   cases hp:plainB d x with
   | true=>
    rw [hp] at HC HT
    clear hp
    go_wp2_with fail
    refine HC.out.mono ?_
    rintro e0 w5 ⟨rfl,hb5⟩
    go_wp2_with fail
    go_roundw
    case rel=>exact ⟨k + 1,by omega,by go_num,by rw [HT.out,HALL.out];rfl,bthen hb hb5⟩
    case measure=>simp [intOf];omega
   | false=>
    rw [hp] at HC
    have hrl:=HN.out hp
    clear hp HN
    subst hrl
    go_wp2_with fail
    refine HC.out.mono ?_
    rintro e0 w5 ⟨rfl,hb5⟩
    go_wp2_with fail
    go_ret
    exact ⟨⟨_,rfl,by simp⟩,bthen hb hb5⟩
  ·obtain rfl:k=xs.length:=by omega
   have hrl:=HALLY.out HALL.out
   subst hrl
   go_wp2_with fail
   go_ret
   exact ⟨⟨_,rfl,by simp⟩,hb⟩
set_option maxHeartbeats 2000000 in
theorem ncont_any (d:Int) (xs:List (List UInt8)) (v:Value) (bm:Nat) (w:World) (hg:GWL w) (hr:Rd w w.heap.size v xs.length (xs.map strV)) (hx:∀ x ∈ xs,x.length ≤ 1000000) (hl:xs.length ≤ 1000000000) (hm:w.cell? ⟨bm,0,none⟩=some (.int .i64 d)) :
  Calls Tryz.prog 58 #[v,.func (.func 60) #[] #[.pointer (some ⟨bm,0,none⟩)]] w fun e w'=>e=.returned (.bool (!xs.all (plainB d)))∧Below w.heap.size w w':=by
 have HI:=Lib.hid (nidx_any d xs v bm w hg hr hx hl hm)
 obtain ⟨A,c,rfl,hc⟩:=hr.form
 generalize xs.all (plainB d)=rl at *
 clear hr hm hx
 go_enter Tryz.func58, Tryz.ntmps58
 go_wp2_with fail
 refine HI.out.mono ?_
 rintro e w2 ⟨⟨z,rfl,hz⟩,hb2⟩
 have HZ:=Lib.hid hz
 clear hz
 go_wp2_with fail
 go_ret
 exact ⟨ret_bool HZ.out,hb2⟩
end Go.Proofs.YtagplldaooipmaaGreatDoor
/- line: right. -/
namespace Go.Proofs.YtagplldaooipmaaGreatDoor
open Go.RowKit
theorem names_short (e:Ex):∀ d,rightE e d=true → ∀ m ∈ namesE e,m.length ≤ 16:=by
 induction e using Ex.ind with
 | h o n m s ih=>
  intro d h
  have hf:=rightE.form h
  cases hf with
  | num=>simp [namesE,namesL]
  | name m d g1=>intro x hx;simp [namesE,namesL] at hx;subst hx;unfold nameB at g1;simp only [Bool.and_eq_true,decide_eq_true_eq] at g1;exact g1.1.1.2
  | here=>simp [namesE,namesL]
  | neg a d hA=>intro x hx;simp [namesE,namesL] at hx;exact ih a (by simp) d hA x hx
  | not a d hA=>intro x hx;simp [namesE,namesL] at hx;exact ih a (by simp) d hA x hx
  | two o r a b d ho h1 h2=>
   have hn:=ho.binds.2.2.1
   intro x hx
   simp [namesE,namesL,hn] at hx
   rcases hx with hx | hx
   ·exact ih a (by simp) d h1 x hx
   ·exact ih b (by simp) d h2 x hx
def fitA (a:Ar):Prop:=a.w.length ≤ 1000∧a.t.length ≤ 1000∧fitE a.e=true
theorem cells8 {w:World} {b:Nat} {x0 x1 x2 x3 x4 x5 x6 x7:Value} {t:TypeId} {fr:Nat × Nat} (h:w.heap[b]? = some (.cells #[x0,x1,x2,x3,x4,x5,x6,x7] t fr)) :
  w.cell? ⟨b,0,none⟩=some x0∧w.cell? ⟨b,1,none⟩=some x1∧w.cell? ⟨b,2,none⟩=some x2∧w.cell? ⟨b,3,none⟩=some x3∧w.cell? ⟨b,4,none⟩=some x4∧w.cell? ⟨b,5,none⟩=some x5∧w.cell? ⟨b,6,none⟩=some x6∧w.cell? ⟨b,7,none⟩=some x7:=
 ⟨cell_of_heap h,cell_of_heap h,cell_of_heap h,cell_of_heap h,cell_of_heap h,cell_of_heap h,cell_of_heap h,cell_of_heap h⟩
theorem boxes {w w1:World} {o1 o2:Obj} (hb:Below ((w.alloc o1).alloc o2).heap.size ((w.alloc o1).alloc o2) w1):w1.heap[w.heap.size]? = some o1∧w1.heap[w.heap.size + 1]? = some o2∧Below w.heap.size w w1:=by
 refine ⟨(hb.block w.heap.size (by simp;omega)).trans ((Below.heap_alloc _ _ _ (by simp)).trans (heap_alloc_new w _)),?_,bthen (((Below.refl w.heap.size w).alloc (Nat.le_refl _) _).alloc (by simp) _) hb⟩
 have h:=heap_alloc_new (w.alloc o1) o2
 rw [show (w.alloc o1).heap.size=w.heap.size + 1 by simp] at h
 exact (hb.block (w.heap.size + 1) (by simp)).trans h
set_option maxHeartbeats 4000000 in
set_option maxRecDepth 100000 in
theorem right12_word (d:Int) (op:List UInt8) (a:Ar) (v:Value) (w:World) (hg:GWL w) (hw:a.w ≠ []) (hs:SubAt w (· < w.heap.size) v a.e.sub) :
    Calls Tryz.prog 34 #[.int .i64 d,.string ⟨op.toArray⟩,arV a v] w fun e w'=>e=.returned (.bool (rightA d op a))∧Below w.heap.size w w':=by
  have HQ:=Lib.hid (fun W (hW:Below w.heap.size w W)=>Same_any a.e ex0 v (.slice none 0 0) W (hs.at hW hW.size) (SubAt.nil _ _))
  have HW:=Lib.hid (fun W (hW:GWL W)=>word12_any d a.w W hW)
  have HR:Hid (rightA d op a=(sameE a.e ex0 && !a.mem && a.t == [] && !a.is && wordB d a.w)):=Lib.hid (by unfold rightA emptyA;rw [if_pos hw])
  generalize rightA d op a=res at *
  obtain ⟨A,c,rfl,hc,hm⟩:=hs.form
  clear hs hc hm
  obtain ⟨aw,at1,ais,amem,ae⟩:=a
  have hw1:(aw == [])=false:=by simpa using hw
  have hw2:aw.isEmpty=false:=by simpa using hw
  unfold arV
  simp only at *
  generalize sameE ae ex0=se at *
  generalize wordB d aw=wb at *
  generalize ae.sub.length=sl at *
  obtain ⟨o,n,m,s⟩:=ae
  simp only [Ex.op,Ex.n,Ex.name,ex0] at *
  clear hw
  by_cases hcase:se=true∧amem=false∧at1 = []∧ais=false
  · obtain ⟨rfl,rfl,rfl,rfl⟩:=hcase
    have HR':Hid (res=wb):=Lib.hid (by rw [HR.out];simp)
    go_enter Tryz.func34, Tryz.ntmps34
    go_wp2_with fail
    refine (HQ.out _ (((Below.refl _ _).alloc (Nat.le_refl _) _).alloc (by simp) _)).mono ?_
    rintro e w1 ⟨rfl,hb1⟩
    obtain ⟨C0,C1,B1⟩:=boxes hb1
    have hgw:=Lib.hid (hg.below B1)
    have d0:=cell_of_heap (i:=0) C0
    obtain ⟨c0,c1,c2,c3,c4,c5,c6,c7⟩:=cells8 C1
    simp at d0
    have HB1:=Lib.hid B1
    clear C0 C1 hb1 B1
    go_wp2_with fail
    refine (HW.out _ hgw.out).mono ?_
    rintro e w2 ⟨rfl,hb2⟩
    go_wp2_with fail
    go_ret
    rw [HR'.out]
    exact ⟨rfl,bthen HB1.out hb2⟩
  · have HR':Hid (res=false):=Lib.hid (by
      rw [HR.out]
      cases se <;> cases amem <;> cases ais <;> simp_all)
    cases hat:at1 with
    | nil=>
      subst hat
      cases se <;> cases amem <;> cases ais
      all_goals first
        | (exfalso;simp at hcase;done)
        | (clear hcase
           go_enter Tryz.func34, Tryz.ntmps34
           go_wp2_with fail
           refine (HQ.out _ (((Below.refl _ _).alloc (Nat.le_refl _) _).alloc (by simp) _)).mono ?_
           rintro e w1 ⟨rfl,hb1⟩
           obtain ⟨C0,C1,B1⟩:=boxes hb1
           have d0:=cell_of_heap (i:=0) C0
           obtain ⟨c0,c1,c2,c3,c4,c5,c6,c7⟩:=cells8 C1
           simp at d0
           have HB1:=Lib.hid B1
           clear C0 C1 hb1 B1
           go_wp2_with fail
           go_ret
           rw [HR'.out]
           exact ⟨rfl,HB1.out⟩)
    | cons x r=>
      rw [hat] at hcase
      clear hat hcase
      cases se <;> cases amem
      all_goals (
        go_enter Tryz.func34, Tryz.ntmps34
        go_wp2_with fail
        refine (HQ.out _ (((Below.refl _ _).alloc (Nat.le_refl _) _).alloc (by simp) _)).mono ?_
        rintro e w1 ⟨rfl,hb1⟩
        obtain ⟨C0,C1,B1⟩:=boxes hb1
        have d0:=cell_of_heap (i:=0) C0
        obtain ⟨c0,c1,c2,c3,c4,c5,c6,c7⟩:=cells8 C1
        simp at d0
        have HB1:=Lib.hid B1
        clear C0 C1 hb1 B1
        go_wp2_with fail
        go_ret
        rw [HR'.out]
        exact ⟨rfl,HB1.out⟩)
end Go.Proofs.YtagplldaooipmaaGreatDoor
/- line: right, of a text and an expression. -/
namespace Go.Proofs.YtagplldaooipmaaGreatDoor
open Go.RowKit
set_option maxHeartbeats 4000000 in
set_option maxRecDepth 100000 in
theorem right12_text (d:Int) (op:List UInt8) (a:Ar) (v:Value) (w:World) (hg:GWL w) (hw:a.w = []) (hi:a.is=true) (hf:fitA a) (hs:SubAt w (· < w.heap.size) v a.e.sub) :
  Calls Tryz.prog 34 #[.int .i64 d,.string ⟨op.toArray⟩,arV a v] w fun e w'=>e=.returned (.bool (rightA d op a))∧Below w.heap.size w w':=by
 have HQ:=Lib.hid (fun W (hW:Below w.heap.size w W)=>Same_any a.e ex0 v (.slice none 0 0) W (hs.at hW hW.size) (SubAt.nil _ _))
 have hql:(quoteL a.t).length ≤ 1000000:=by have:=(dbl_length a.t).2;have:=hf.2.1;unfold quoteL;simp;omega
 have HU:=Lib.hid (fun W (hW:GWL W)=>quote_any a.t W hW.2 (by have:=hf.2.1;omega))
 have HV:=Lib.hid (fun W (hW:GWL W)=>unquote_any (quoteL a.t) W hW.2 hql)
 have HR:Hid (rightA d op a=(sameE a.e ex0 && !a.mem && op == sDB && (unquote (quoteL a.t)).2 == 0)):=Lib.hid (by unfold rightA emptyA;rw [if_neg (by simp [hw]),if_pos hi])
 generalize rightA d op a=res at *
 obtain ⟨A,c,rfl,hc,hm⟩:=hs.form
 clear hs hc hm hf hql
 obtain ⟨aw,at1,ais,amem,ae⟩:=a
 simp only at hw hi
 subst hw hi
 unfold arV
 simp only at *
 generalize sameE ae ex0=se at *
 generalize unquote (quoteL at1)=uq at *
 generalize quoteL at1=ql at *
 obtain ⟨us,uk⟩:=uq
 generalize ae.sub.length=sl at *
 obtain ⟨o,n,m,s⟩:=ae
 simp only [Ex.op,Ex.n,Ex.name,ex0] at *
 have hk:((uk:Int) == 0)=(uk == 0):=by cases uk <;> rfl
 have key:(se=true∧amem=false∧op=sDB∧uk=0) ∨ (se=true∧amem=false∧op=sDB∧uk ≠ 0) ∨ (se=true∧amem=false∧op ≠ sDB) ∨ (se=true∧amem=true) ∨ (se=false∧amem=true) ∨ (se=false∧amem=false):=by
  by_cases h1:op=sDB <;> by_cases h2:uk=0 <;> cases se <;> cases amem <;> simp [h1,h2]
 have walk:∀ (b:Bool) (hres:res=b),Calls Tryz.prog 34 #[.int .i64 d,.string ⟨op.toArray⟩,.agg #[.string ⟨#[]⟩,.string ⟨at1.toArray⟩,.bool true,.bool amem,.string ⟨o.toArray⟩,.int .u16 n,.string ⟨m.toArray⟩,.slice A sl c]] w fun e w'=>e=.returned (.bool b)∧Below w.heap.size w w':=by
  intro b hres
  have HRes:=Lib.hid hres
  clear hres
  rcases key with ⟨rfl,rfl,rfl,rfl⟩ | ⟨rfl,rfl,rfl,h⟩ | ⟨rfl,rfl,h⟩ | ⟨rfl,rfl⟩ | ⟨rfl,rfl⟩ | ⟨rfl,rfl⟩
  ·have HB:Hid (b=true):=Lib.hid (by rw [← HRes.out,HR.out];simp)
   clear hk
   go_enter Tryz.func34, Tryz.ntmps34
   go_wp2_with fail
   refine (HQ.out _ (((Below.refl _ _).alloc (Nat.le_refl _) _).alloc (by simp) _)).mono ?_
   rintro e w1 ⟨rfl,hb1⟩
   obtain ⟨C0,C1,B1⟩:=boxes hb1
   have hgw:=Lib.hid (hg.below B1)
   obtain ⟨c0,c1,c2,c3,c4,c5,c6,c7⟩:=cells8 C1
   have HB1:=Lib.hid B1
   clear C0 C1 hb1 B1
   go_wp2_with fail
   refine (HU.out _ hgw.out).mono ?_
   rintro e w2 ⟨rfl,hb2⟩
   go_wp2_with fail
   refine (HV.out _ (hgw.out.below hb2)).mono ?_
   rintro e w3 ⟨rfl,hb3⟩
   go_wp2_with fail
   go_ret
   rw [HB.out]
   exact ⟨rfl,bthen (bthen HB1.out hb2) hb3⟩
  ·have HB:Hid (b=false):=Lib.hid (by rw [← HRes.out,HR.out];simp [h])
   have e1:((uk:Int) == 0)=false:=by rw [beq_eq_false_iff_ne];omega
   clear hk h
   go_enter Tryz.func34, Tryz.ntmps34
   go_wp2_with fail
   refine (HQ.out _ (((Below.refl _ _).alloc (Nat.le_refl _) _).alloc (by simp) _)).mono ?_
   rintro e w1 ⟨rfl,hb1⟩
   obtain ⟨C0,C1,B1⟩:=boxes hb1
   have hgw:=Lib.hid (hg.below B1)
   obtain ⟨c0,c1,c2,c3,c4,c5,c6,c7⟩:=cells8 C1
   have HB1:=Lib.hid B1
   clear C0 C1 hb1 B1
   go_wp2_with fail
   refine (HU.out _ hgw.out).mono ?_
   rintro e w2 ⟨rfl,hb2⟩
   go_wp2_with fail
   refine (HV.out _ (hgw.out.below hb2)).mono ?_
   rintro e w3 ⟨rfl,hb3⟩
   go_wp2_with fail
   go_ret
   rw [HB.out]
   exact ⟨rfl,bthen (bthen HB1.out hb2) hb3⟩
  ·have HB:Hid (b=false):=Lib.hid (by rw [← HRes.out,HR.out];simp [h])
   have e1:(op == [68,66])=false:=by simpa using h
   clear hk h
   go_enter Tryz.func34, Tryz.ntmps34
   go_wp2_with fail
   refine (HQ.out _ (((Below.refl _ _).alloc (Nat.le_refl _) _).alloc (by simp) _)).mono ?_
   rintro e w1 ⟨rfl,hb1⟩
   obtain ⟨C0,C1,B1⟩:=boxes hb1
   have hgw:=Lib.hid (hg.below B1)
   obtain ⟨c0,c1,c2,c3,c4,c5,c6,c7⟩:=cells8 C1
   have HB1:=Lib.hid B1
   clear C0 C1 hb1 B1
   go_wp2_with fail
   refine (HU.out _ hgw.out).mono ?_
   rintro e w2 ⟨rfl,hb2⟩
   go_wp2_with fail
   refine (HV.out _ (hgw.out.below hb2)).mono ?_
   rintro e w3 ⟨rfl,hb3⟩
   go_wp2_with fail
   go_ret
   rw [HB.out]
   exact ⟨rfl,bthen (bthen HB1.out hb2) hb3⟩
  all_goals (
   have HB:Hid (b=false):=Lib.hid (by rw [← HRes.out,HR.out];simp)
   clear hk
   go_enter Tryz.func34, Tryz.ntmps34
   go_wp2_with fail
   refine (HQ.out _ (((Below.refl _ _).alloc (Nat.le_refl _) _).alloc (by simp) _)).mono ?_
   rintro e w1 ⟨rfl,hb1⟩
   obtain ⟨C0,C1,B1⟩:=boxes hb1
   have hgw:=Lib.hid (hg.below B1)
   obtain ⟨c0,c1,c2,c3,c4,c5,c6,c7⟩:=cells8 C1
   have HB1:=Lib.hid B1
   clear C0 C1 hb1 B1
   go_wp2_with fail
   refine (HU.out _ hgw.out).mono ?_
   rintro e w2 ⟨rfl,hb2⟩
   go_wp2_with fail
   refine (HV.out _ (hgw.out.below hb2)).mono ?_
   rintro e w3 ⟨rfl,hb3⟩
   go_wp2_with fail
   go_ret
   rw [HB.out]
   exact ⟨rfl,bthen (bthen HB1.out hb2) hb3⟩)
 exact walk res rfl
set_option maxHeartbeats 4000000 in
set_option maxRecDepth 100000 in
theorem right12_expr (d:Int) (op:List UInt8) (a:Ar) (v:Value) (w:World) (hg:GWL w) (hw:a.w = []) (hi:a.is=false) (hf:fitA a) (hs:SubAt w (· < w.heap.size) v a.e.sub) :
  Calls Tryz.prog 34 #[.int .i64 d,.string ⟨op.toArray⟩,arV a v] w fun e w'=>e=.returned (.bool (rightA d op a))∧Below w.heap.size w w':=by
 have HQ:=Lib.hid (fun W (hW:Below w.heap.size w W)=>Same_any a.e ex0 v (.slice none 0 0) W (hs.at hW hW.size) (SubAt.nil _ _))
 have HE:=Lib.hid (fun W (hW:Below w.heap.size w W)=>Right_any a.e v W hf.2.2 (hs.at hW hW.size))
 have HN:=Lib.hid (fun (hr:rightE a.e 24=true) W (hW:Below w.heap.size w W)=>Names_any a.e 24 v W (by omega) hr (hs.at hW hW.size))
 have HL:=Lib.hid (fun (hr:rightE a.e 24=true)=>names_len a.e 24 hr)
 have HX:=Lib.hid (fun (hr:rightE a.e 24=true)=>names_short a.e 24 hr)
 have HR:Hid (rightA d op a=if a.t ≠ [] ∨ (a.mem=true∧d=0) ∨ rightE a.e 24=false then false else (namesE a.e).all (plainB d)):=Lib.hid (by unfold rightA;rw [if_neg (by simp [hw]),if_neg (by simp [hi])])
 have HK:Hid (rightK a.e=if rightE a.e 24 then 0 else 2):=Lib.hid rfl
 generalize rightA d op a=res at *
 obtain ⟨A,c,rfl,hc,hm⟩:=hs.form
 clear hs hc hm hf
 obtain ⟨aw,at1,ais,amem,ae⟩:=a
 simp only at hw hi
 subst hw hi
 unfold arV
 simp only at *
 generalize sameE ae ex0=se at *
 generalize rightE ae 24=re at *
 generalize rightK ae=rk at *
 generalize namesE ae=ns at *
 generalize ae.sub.length=sl at *
 obtain ⟨o,n,m,s⟩:=ae
 simp only [Ex.op,Ex.n,Ex.name,ex0] at *
 have start:∀ (Q:Ending → World → Prop),True:=fun _=>trivial
 clear start
 cases hat:at1 with
 | cons x r=>
  have HB:Hid (res=false):=Lib.hid (by rw [HR.out,hat];simp)
  clear hat HR
  cases se <;> cases amem
  all_goals (
   go_enter Tryz.func34, Tryz.ntmps34
   go_wp2_with fail
   refine (HQ.out _ (((Below.refl _ _).alloc (Nat.le_refl _) _).alloc (by simp) _)).mono ?_
   rintro e w1 ⟨rfl,hb1⟩
   obtain ⟨C0,C1,B1⟩:=boxes hb1
   obtain ⟨c0,c1,c2,c3,c4,c5,c6,c7⟩:=cells8 C1
   have HB1:=Lib.hid B1
   clear C0 C1 hb1 B1
   go_wp2_with fail
   go_ret
   rw [HB.out]
   exact ⟨rfl,HB1.out⟩)
 | nil=>
  subst hat
  by_cases hmd:amem=true∧d=0
  ·obtain ⟨rfl,rfl⟩:=hmd
   have HB:Hid (res=false):=Lib.hid (by rw [HR.out];simp)
   clear HR
   cases se
   all_goals (
    go_enter Tryz.func34, Tryz.ntmps34
    go_wp2_with fail
    refine (HQ.out _ (((Below.refl _ _).alloc (Nat.le_refl _) _).alloc (by simp) _)).mono ?_
    rintro e w1 ⟨rfl,hb1⟩
    obtain ⟨C0,C1,B1⟩:=boxes hb1
    have d0:=cell_of_heap (i:=0) C0
    simp at d0
    obtain ⟨c0,c1,c2,c3,c4,c5,c6,c7⟩:=cells8 C1
    have HB1:=Lib.hid B1
    clear C0 C1 hb1 B1
    go_wp2_with fail
    go_ret
    rw [HB.out]
    exact ⟨rfl,HB1.out⟩)
  ·have hnm:amem=true → (d == 0)=false:=fun h=>by rw [beq_eq_false_iff_ne];exact fun h2=>hmd ⟨h,h2⟩
   cases re with
   | false=>
    have HB:Hid (res=false):=Lib.hid (by rw [HR.out];simp)
    have hrk:rk=2:=HK.out
    subst hrk
    clear HR hmd HK HN HL HX
    cases se <;> cases amem
    all_goals (
     first | have hd0:=hnm rfl | skip
     clear hnm
     go_enter Tryz.func34, Tryz.ntmps34
     go_wp2_with fail
     refine (HQ.out _ (((Below.refl _ _).alloc (Nat.le_refl _) _).alloc (by simp) _)).mono ?_
     rintro e w1 ⟨rfl,hb1⟩
     obtain ⟨C0,C1,B1⟩:=boxes hb1
     have d0:=cell_of_heap (i:=0) C0
     simp at d0
     obtain ⟨c0,c1,c2,c3,c4,c5,c6,c7⟩:=cells8 C1
     have HB1:=Lib.hid B1
     clear C0 C1 hb1 B1
     go_wp2_with fail
     refine (HE.out _ HB1.out).mono ?_
     rintro e w2 ⟨rfl,hb2⟩
     go_wp2_with fail
     go_ret
     rw [HB.out]
     exact ⟨rfl,bthen HB1.out hb2⟩)
   | true=>
    have HB:Hid (res=ns.all (plainB d)):=Lib.hid (by rw [HR.out,if_neg];simp;exact fun h h2=>hmd ⟨h,h2⟩)
    have hrk:rk=0:=HK.out
    have hnl:=HL.out rfl
    have HX2:=Lib.hid (fun x hx=>Nat.le_trans (HX.out rfl x hx) (show 16 ≤ 1000000 by omega))
    have HN2:=Lib.hid (HN.out rfl)
    subst hrk
    have HA:=Lib.hid (fun v bm W h1 h2 h4=>ncont_any d ns v bm W h1 h2 HX2.out (by omega) h4)
    generalize ns.all (plainB d)=nb at *
    clear HR hmd HK HN HL HX hnl
    cases se <;> cases amem
    all_goals (
     first | have hd0:=hnm rfl | skip
     clear hnm
     go_enter Tryz.func34, Tryz.ntmps34
     go_wp2_with fail
     refine (HQ.out _ (((Below.refl _ _).alloc (Nat.le_refl _) _).alloc (by simp) _)).mono ?_
     rintro e w1 ⟨rfl,hb1⟩
     obtain ⟨C0,C1,B1⟩:=boxes hb1
     have d0:=cell_of_heap (i:=0) C0
     simp at d0
     have hgw:=Lib.hid (hg.below B1)
     obtain ⟨c0,c1,c2,c3,c4,c5,c6,c7⟩:=cells8 C1
     have HB1:=Lib.hid B1
     have HC0:=Lib.hid C0
     have HC1:=Lib.hid C1
     clear C0 C1 hb1 B1
     go_wp2_with fail
     refine (HE.out _ HB1.out).mono ?_
     rintro e w2 ⟨rfl,hb2⟩
     have HB2:=Lib.hid (bthen HB1.out hb2)
     have HD0:=Lib.hid ((hb2.block _ (lt_of_heap HC0.out)).trans HC0.out)
     have HD1:=Lib.hid ((hb2.block _ (lt_of_heap HC1.out)).trans HC1.out)
     have hgw2:=Lib.hid (hgw.out.below hb2)
     clear d0 c0 c1 c2 c3 c4 c5 c6 c7 hb2
     obtain ⟨c0,c1,c2,c3,c4,c5,c6,c7⟩:=cells8 HD1.out
     go_wp2_with fail
     refine (HN2.out _ HB2.out).mono ?_
     rintro e w3 ⟨v3,rfl,hr3,hb3⟩
     have d3:=cell_of_heap (i:=0) ((hb3.block _ (lt_of_heap HD0.out)).trans HD0.out)
     simp at d3
     have HC3:=Lib.hid (HA.out v3 w.heap.size w3 (hgw2.out.below hb3) hr3 d3)
     obtain ⟨A3,k3,rfl,_⟩:=hr3.form
     clear hr3 c0 c1 c2 c3 c4 c5 c6 c7
     go_wp2_with fail
     refine HC3.out.mono ?_
     rintro e w4 ⟨rfl,hb4⟩
     go_wp2_with fail
     go_ret
     rw [HB.out]
     exact ⟨by simp,bthen (bthen HB2.out hb3) hb4⟩)
theorem right12_any (d:Int) (op:List UInt8) (a:Ar) (v:Value) (w:World) (hg:GWL w) (hf:fitA a) (hs:SubAt w (· < w.heap.size) v a.e.sub) :
  Calls Tryz.prog 34 #[.int .i64 d,.string ⟨op.toArray⟩,arV a v] w fun e w'=>e=.returned (.bool (rightA d op a))∧Below w.heap.size w w':=by
 by_cases h1:a.w = []
 ·cases h2:a.is with
  | true=>exact right12_text d op a v w hg h1 h2 hf hs
  | false=>exact right12_expr d op a v w hg h1 h2 hf hs
 ·exact right12_word d op a v w hg h1 hs
end Go.Proofs.YtagplldaooipmaaGreatDoor
/- line: Right. -/
namespace Go.Proofs.YtagplldaooipmaaGreatDoor
open Go.RowKit
def fitS (s:St):Prop:=s.label.length ≤ 1000∧s.op.length ≤ 1000∧∀ a ∈ s.args,fitA a
theorem cells4 {w:World} {b:Nat} {x0 x1 x2 x3:Value} {t:TypeId} {fr:Nat × Nat} (h:w.heap[b]? = some (.cells #[x0,x1,x2,x3] t fr)) :
  w.cell? ⟨b,0,none⟩=some x0∧w.cell? ⟨b,1,none⟩=some x1∧w.cell? ⟨b,2,none⟩=some x2∧w.cell? ⟨b,3,none⟩=some x3:=⟨cell_of_heap h,cell_of_heap h,cell_of_heap h,cell_of_heap h⟩
set_option maxHeartbeats 1000000 in
theorem raclo_any (d:Int) (op:List UInt8) (a:Ar) (v:Value) (bd bs:Nat) (w:World) (hg:GWL w) (hf:fitA a) (hs:SubAt w (· < w.heap.size) v a.e.sub) (hm:w.cell? ⟨bd,0,none⟩=some (.int .i64 d)) (ho:w.cell? ⟨bs,2,none⟩=some (.string ⟨op.toArray⟩)) :
  Calls Tryz.prog 33 #[arV a v,.pointer (some ⟨bd,0,none⟩),.pointer (some ⟨bs,0,none⟩)] w fun e w'=>e=.returned (.bool (!rightA d op a))∧Below w.heap.size w w':=by
 have h1:=World.block_lt_of_cell? _ _ hm
 have h2:=World.block_lt_of_cell? _ _ ho
 have HC:=Lib.hid (fun o=>right12_any d op a v (w.alloc o) (hg.below ((Below.refl _ _).alloc (Nat.le_refl _) _)) hf (hs.at ((Below.refl _ _).alloc (Nat.le_refl _) o) (by simp)))
 obtain ⟨A,c,rfl,_,_⟩:=hs.form
 generalize rightA d op a=rb at *
 obtain ⟨aw,at1,ais,amem,ae⟩:=a
 unfold arV at *
 simp only at *
 clear hs
 go_enter Tryz.func33, Tryz.ntmps33
 go_wp2_with fail
 refine (HC.out _).mono ?_
 rintro e w2 ⟨rfl,hb2⟩
 go_wp2_with fail
 go_ret
 exact ⟨rfl,bthen ((Below.refl _ _).alloc (Nat.le_refl _) _) hb2⟩
set_option maxHeartbeats 4000000 in
theorem aidx_any (d:Int) (op:List UInt8) (l:List Ar) (v:Value) (bd bs:Nat) (w:World) (hg:GWL w) (hf:∀ a ∈ l,fitA a) (hs:ArAt w (· < w.heap.size) v l) (hm:w.cell? ⟨bd,0,none⟩=some (.int .i64 d)) (ho:w.cell? ⟨bs,2,none⟩=some (.string ⟨op.toArray⟩)) :
  Calls Tryz.prog 52 #[v,.func (.func 33) #[] #[.pointer (some ⟨bd,0,none⟩),.pointer (some ⟨bs,0,none⟩)]] w fun e w'=>(∃ z:Int,e=.returned (.int .i64 z)∧decide (0 ≤ z) = !l.all (rightA d op))∧Below w.heap.size w w':=by
 obtain ⟨A,c,rfl,hc,hm2⟩:=hs.form
 unfold maxLen at hm2
 have h1:=World.block_lt_of_cell? _ _ hm
 have h2:=World.block_lt_of_cell? _ _ ho
 have HS:=Lib.hid hs
 have HM:=Lib.hid hm
 have HO:=Lib.hid ho
 have HF:=Lib.hid hf
 have HALLN:Hid (∀ k (hk:k < l.length),rightA d op l[k]=false → l.all (rightA d op)=false):=Lib.hid (fun k hk h=>by rw [List.all_eq_false];exact ⟨l[k],List.getElem_mem hk,by simp [h]⟩)
 have HALLY:Hid ((l.take l.length).all (rightA d op)=true → l.all (rightA d op)=true):=Lib.hid (fun h=>by rwa [List.take_length] at h)
 generalize l.all (rightA d op)=rl at *
 clear hs hm ho hf
 go_enter Tryz.func52, Tryz.ntmps52
 go_wp2_with fail
 go_loopw [8] (fun i wr=>∃ k:Nat,k ≤ l.length∧i=.int .i64 k∧(l.take k).all (rightA d op)=true∧Below w.heap.size w wr) (fun i _=>l.length - (intOf i).toNat)
 case atStart=>exact ⟨0,Nat.zero_le _,rfl,rfl,Below.refl _ _⟩
 case round=>
  obtain ⟨k,hk,rfl,hall,hb⟩:=hrel
  have hsz:=hb.size
  have HALL:=Lib.hid hall
  clear hall
  by_cases hlt:k < l.length
  ·obtain ⟨g,q,vk,rfl,hgl,c0,c1,c2,c3,c4,c5,c6,c7,hsub⟩:=HS.out.get k hlt
   obtain ⟨vA,vc,rfl,_,_⟩:=hsub.form
   have d0:=(hb.cell (p:=⟨g,q + k * 8,none⟩) hgl).trans c0
   have d1:=(hb.cell (p:=⟨g,q + k * 8 + 1,none⟩) hgl).trans c1
   have d2:=(hb.cell (p:=⟨g,q + k * 8 + 2,none⟩) hgl).trans c2
   have d3:=(hb.cell (p:=⟨g,q + k * 8 + 3,none⟩) hgl).trans c3
   have d4:=(hb.cell (p:=⟨g,q + k * 8 + 4,none⟩) hgl).trans c4
   have d5:=(hb.cell (p:=⟨g,q + k * 8 + 5,none⟩) hgl).trans c5
   have d6:=(hb.cell (p:=⟨g,q + k * 8 + 6,none⟩) hgl).trans c6
   have d7:=(hb.cell (p:=⟨g,q + k * 8 + 7,none⟩) hgl).trans c7
   have HC:=Lib.hid (raclo_any d op l[k] _ bd bs wr (hg.below hb) (HF.out _ (List.getElem_mem hlt)) (hsub.at hb hsz) ((hb.cell (p:=⟨bd,0,none⟩) h1).trans HM.out) ((hb.cell (p:=⟨bs,2,none⟩) h2).trans HO.out))
   have HT:Hid ((l.take (k + 1)).all (rightA d op)=((l.take k).all (rightA d op) && rightA d op l[k])):=Lib.hid (by rw [List.take_succ_eq_append_getElem hlt,List.all_append];simp)
   have HN:=Lib.hid (HALLN.out k hlt)
   generalize l[k]=x at *
   clear c0 c1 c2 c3 c4 c5 c6 c7 hsub
   cases hp:rightA d op x with
   | true=>
    rw [hp] at HC HT
    clear hp
    go_wp2_with fail
    refine HC.out.mono ?_
    rintro e0 w5 ⟨rfl,hb5⟩
    go_wp2_with fail
    go_roundw
    case rel=>exact ⟨k + 1,by omega,by go_num,by rw [HT.out,HALL.out];rfl,bthen hb hb5⟩
    case measure=>simp [intOf];omega
   | false=>
    rw [hp] at HC
    have hrl:=HN.out hp
    clear hp HN
    subst hrl
    go_wp2_with fail
    refine HC.out.mono ?_
    rintro e0 w5 ⟨rfl,hb5⟩
    go_wp2_with fail
    go_ret
    exact ⟨⟨_,rfl,by simp⟩,bthen hb hb5⟩
  ·obtain rfl:k=l.length:=by omega
   have hrl:=HALLY.out HALL.out
   subst hrl
   go_wp2_with fail
   go_ret
   exact ⟨⟨_,rfl,by simp⟩,hb⟩
set_option maxHeartbeats 2000000 in
theorem acont_any (d:Int) (op:List UInt8) (l:List Ar) (v:Value) (bd bs:Nat) (w:World) (hg:GWL w) (hf:∀ a ∈ l,fitA a) (hs:ArAt w (· < w.heap.size) v l) (hm:w.cell? ⟨bd,0,none⟩=some (.int .i64 d)) (ho:w.cell? ⟨bs,2,none⟩=some (.string ⟨op.toArray⟩)) :
  Calls Tryz.prog 32 #[v,.func (.func 33) #[] #[.pointer (some ⟨bd,0,none⟩),.pointer (some ⟨bs,0,none⟩)]] w fun e w'=>e=.returned (.bool (!l.all (rightA d op)))∧Below w.heap.size w w':=by
 have HI:=Lib.hid (aidx_any d op l v bd bs w hg hf hs hm ho)
 obtain ⟨A,c,rfl,hc⟩:=hs.form
 generalize l.all (rightA d op)=rl at *
 clear hs hm ho hf
 go_enter Tryz.func32, Tryz.ntmps32
 go_wp2_with fail
 refine HI.out.mono ?_
 rintro e w2 ⟨⟨z,rfl,hz⟩,hb2⟩
 have HZ:=Lib.hid hz
 clear hz
 go_wp2_with fail
 go_ret
 exact ⟨ret_bool HZ.out,hb2⟩
end Go.Proofs.YtagplldaooipmaaGreatDoor
/- line: tokens' name, mark, pair. -/
namespace Go.Proofs.YtagplldaooipmaaGreatDoor
open Go.RowKit
end Go.Proofs.YtagplldaooipmaaGreatDoor
/- line: operand. -/
namespace Go.Proofs.YtagplldaooipmaaGreatDoor
open Go.RowKit
theorem SubAt.set {w:World} {S:Nat → Prop} {v:Value} {s:List Ex} {b:Nat} (h:SubAt w S v s) (hS:∀ g,S g → g ≠ b) (i:Nat) (u:Value):SubAt (w.setCell ⟨b,i,none⟩ u) S v s:=
 h.keep (fun p hp=>World.cell?_of_block (Below.heap_setCell w ⟨b,i,none⟩ u p.block (hS _ hp))) (fun _ h=>h)
end Go.Proofs.YtagplldaooipmaaGreatDoor
/- line: operand, an expression. -/
namespace Go.Proofs.YtagplldaooipmaaGreatDoor
open Go.RowKit
theorem SubAt.set8 {w:World} {S:Nat → Prop} {v:Value} {s:List Ex} {b:Nat} (h:SubAt w S v s) (hS:∀ g,S g → g ≠ b) (u0 u1 u2 u3 u4 u5 u6 u7:Value):SubAt ((((((((w.setCell ⟨b,0,none⟩ u0).setCell ⟨b,1,none⟩ u1).setCell ⟨b,2,none⟩ u2).setCell ⟨b,3,none⟩ u3).setCell ⟨b,4,none⟩ u4).setCell ⟨b,5,none⟩ u5).setCell ⟨b,6,none⟩ u6).setCell ⟨b,7,none⟩ u7) S v s:=
 (((((((h.set hS _ _).set hS _ _).set hS _ _).set hS _ _).set hS _ _).set hS _ _).set hS _ _).set hS _ _
end Go.Proofs.YtagplldaooipmaaGreatDoor
/- line: operand, an expression of several tokens. -/
namespace Go.Proofs.YtagplldaooipmaaGreatDoor
open Go.RowKit
theorem tokRow_app (a b:List Tok):tokRow (a ++ b)=tokRow a ++ tokRow b:=by simp [tokRow]
end Go.Proofs.YtagplldaooipmaaGreatDoor
