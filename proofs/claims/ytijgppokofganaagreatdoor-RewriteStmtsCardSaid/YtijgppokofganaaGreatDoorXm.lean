/- Xm. -/
import Derived.Test.YtijgppokofganaaGreatDoorXa
import Derived.Test.YtijgppokofganaaGreatDoorKa
import Derived.Test.YtijgppokofganaaGreatDoorKn
import Derived.Test.YtijgppokofganaaGreatDoorXd
import Derived.Test.YtijgppokofganaaGreatDoorKm
import Derived.Test.YtijgppokofganaaGreatDoorKg
import Derived.Test.YtijgppokofganaaGreatDoorLs
namespace Go.Proofs.YtijgppokofganaaGreatDoor
set_option maxRecDepth 100000
set_option maxHeartbeats 16000000
open Go.RowKit
def exSub (w:World) (S:Nat->Prop) (v:Value) (e:Ex):Prop:=SubAt w S v e.sub
theorem exSub_keep:∀ (w w':World) (S S':Nat->Prop) (v:Value) (a:Ex),exSub w S v a->(∀ p:Addr,S p.block->w'.cell? p=w.cell? p)->(∀ g,S g->S' g)->exSub w' S' v a:=fun _ _ _ _ _ _ h hk hS=>SubAt.keep h hk hS
theorem exCells_len (a:Ex) (v:Value):(exCells a v).length=4:=rfl
theorem exCells_one (a:Ex) (v:Value) (h:v.oneCell'=true):∀ u∈exCells a v,u.oneCell'=true:=by
 intro u hu
 simp [exCells] at hu
 rcases hu with rfl | rfl | rfl | rfl <;> first | rfl | exact h
abbrev ExOwn (w:World) (base:Nat) (v:Value) (l:List Ex) (vs:List Value):Prop:=OwnV exCells exSub 34 4 w base v l vs
theorem OwnV.subAt {w:World} {base:Nat} {v:Value} {l:List Ex} {vs:List Value} (h:ExOwn w base v l vs) (hok:∀ e∈l,okE e):SubAt w (fun g=>base<=g/\g<w.heap.size) v l:=by
 obtain ⟨h1,h2,h3⟩:=h
 obtain ⟨A,c,rfl,hc,hm,hrow⟩:=own_slice h2 (by omega)
 refine .mk A c l (fun i=>vs.getD i (Zs)) hc hm (fun h0=>?_) (fun i hi=>hok _ (List.getElem_mem hi)) (fun i hi=>SubAt.more (h3 i hi) (fun g hg=>⟨hg.1,hg.2.1⟩))
 obtain ⟨g,rfl,g1,g2,_,g3⟩:=hrow h0
 refine ⟨g,0,rfl,⟨g1,g2⟩,fun i hi=>?_⟩
 have G:∀ j u,(exCells l[i] (vs.getD i (Zs)))[j]? = some u->w.cell? ⟨g,0+i * 4+j,none⟩=some u:=fun j u hu=>by
  rw [Nat.zero_add]
  exact g3 _ _ (rowV_get exCells_len l vs h1 i hi j u hu)
 exact ⟨G 0 _ rfl,G 1 _ rfl,G 2 _ rfl,G 3 _ rfl⟩
theorem info_ex4:(Tryz.prog.info? 34).map (fun i=>(i.zero,i.size,i.bytes))=some (some (.agg #[.string ⟨#[]⟩,.int .u16 0,.string ⟨#[]⟩,.slice none 0 0]),4,64):=by kernel_rfl
theorem trimR_eq (s:List UInt8):Lib.trimRightB s 95=trimU s:=rfl
theorem rename_any (s:List UInt8) (hs:s.length<=1000000) (w:World) (hg:GWL w):Calls Tryz.prog 13 #[.string ⟨s.toArray⟩] w fun e w'=>e=.returned (.tuple #[.string ⟨(renA s).1.toArray⟩,.int .i64 ((renA s).2:Nat)])/\Below w.heap.size w w':=by
 have HT:Hid (∀ W,Calls Tryz.prog 41 #[Sx s,.string ⟨#[95]⟩] W fun e w'=>e=.returned (.string ⟨(trimU s).toArray⟩)/\W=w'):=LH (fun W=>(Tryz.strings_TrimRight_one ⟨s.toArray⟩ 95 (by decide) W (by simp [ByteArray.size];omega)).mono (by
  rintro e w' ⟨rfl,rfl⟩
  exact ⟨by rw [trimR_eq],rfl⟩))
 have HZ:=LH (fun W hW=>res_zilog (trimU s) W hW)
 have HI:=LH (fun W hW=>res_intel (trimU s) W hW)
 have HV:Hid (renA s=if resB 1 (trimU s)=false∨resB 0 (trimU s)=true then (s,0) else if 16<=s.length then ([],11) else (s++[95],0)):=LH rfl
 generalize renA s=res at *
 generalize trimU s=root at *
 cases hz:resB 1 root with
 | false=>
  rw [hz] at HZ HV
  have HX:Hid (res=(s,0)):=LH (by rw [HV.out,if_pos (.inl rfl)])
  clear HI HV hz
  go_enter Tryz.func13, Tryz.ntmps13
  go_wp2_with fail
  refine (HT.out _).mono ?_
  rintro e w1 ⟨rfl,rfl⟩
  go_wp2_with fail
  refine (HZ.out _ hg).mono ?_
  rintro e w1 ⟨rfl,hb1⟩
  go_wp2_with fail
  go_ret2
  rw [HX.out]
  exact ⟨rfl,hb1⟩
 | true=>
  rw [hz] at HZ HV
  clear hz
  cases hi:resB 0 root with
  | true=>
   rw [hi] at HI HV
   have HX:Hid (res=(s,0)):=LH (by rw [HV.out,if_pos (.inr rfl)])
   clear HV hi
   go_enter Tryz.func13, Tryz.ntmps13
   go_wp2_with fail
   refine (HT.out _).mono ?_
   rintro e w1 ⟨rfl,rfl⟩
   go_wp2_with fail
   refine (HZ.out _ hg).mono ?_
   rintro e w1 ⟨rfl,hb1⟩
   go_wp2_with fail
   refine (HI.out _ (hg.below hb1)).mono ?_
   rintro e w2 ⟨rfl,hb2⟩
   go_wp2_with fail
   go_ret2
   rw [HX.out]
   exact ⟨rfl,bthen hb1 hb2⟩
  | false=>
   rw [hi] at HI HV
   clear hi
   by_cases hl:16<=s.length
   ·have e1:(16:Int)<=(s.length:Int):=by omega
    have HX:Hid (res=([],11)):=LH (by rw [HV.out,if_neg (by simp),if_pos hl])
    clear HV
    go_enter Tryz.func13, Tryz.ntmps13
    go_wp2_with fail
    refine (HT.out _).mono ?_
    rintro e w1 ⟨rfl,rfl⟩
    go_wp2_with fail
    refine (HZ.out _ hg).mono ?_
    rintro e w1 ⟨rfl,hb1⟩
    go_wp2_with fail
    refine (HI.out _ (hg.below hb1)).mono ?_
    rintro e w2 ⟨rfl,hb2⟩
    go_wp2_with fail
    go_ret2
    rw [HX.out]
    exact ⟨rfl,bthen hb1 hb2⟩
   ·have e1:decide ((16:Int)<=(s.length:Int))=false:=by simp;omega
    have e2:¬ (16:Int)<=(s.length:Int):=by omega
    have HX:Hid (res=(s++[95],0)):=LH (by rw [HV.out,if_neg (by simp),if_neg hl])
    clear HV
    go_enter Tryz.func13, Tryz.ntmps13
    go_wp2_with fail
    refine (HT.out _).mono ?_
    rintro e w1 ⟨rfl,rfl⟩
    go_wp2_with fail
    refine (HZ.out _ hg).mono ?_
    rintro e w1 ⟨rfl,hb1⟩
    go_wp2_with fail
    refine (HI.out _ (hg.below hb1)).mono ?_
    rintro e w2 ⟨rfl,hb2⟩
    go_wp2_with fail
    go_ret2
    rw [HX.out]
    exact ⟨rfl,bthen hb1 hb2⟩
theorem renL_ok (s:List Ex) (h:∀ j (hj:j<s.length),(renE s[j]).2=0):renL s=(s.map (fun e=>(renE e).1),0):=by
 induction s with
 | nil=>rfl
 | cons a r ih=>
  have h0:=h 0 (by simp)
  have hr:=ih (fun j hj=>h (j+1) (by simp;omega))
  simp only [List.getElem_cons_zero] at h0
  rw [renL,h0,hr]
  rfl
theorem renL_bad (s:List Ex):∀ k (hk:k<s.length),(∀ j (hj:j<s.length),j<k->(renE s[j]).2=0)->(renE s[k]).2≠0->renL s=([],(renE s[k]).2):=by
 induction s with
 | nil=>intro k hk;simp at hk
 | cons a r ih=>
  intro k hk h0 h
  cases k with
  | zero=>
   simp only [List.getElem_cons_zero] at h ⊢
   rw [renL,if_pos h]
  | succ k=>
   have h1:=h0 0 (by simp) (by omega)
   have h2:=ih k (by simpa using hk) (fun j hj hjk=>h0 (j+1) (by simp;omega) (by omega)) (by simpa using h)
   simp only [List.getElem_cons_zero,List.getElem_cons_succ] at h1 h ⊢
   rw [renL,h1,h2]
   simp [h]
def NamesP (w:World) (r:Ex × Nat) (e:Ending) (w':World):Prop:=
 ∃ u,e=.returned (.tuple #[exV r.1 u,.int .i64 (r.2:Nat)])/\SubAt w' (fun g=>w.heap.size<=g/\g<w'.heap.size) u r.1.sub/\Below w.heap.size w w'
theorem NamesP.bad {w w':World} {r:Ex × Nat} (k:Nat) (hr:r=(ex0,k)) (hb:Below w.heap.size w w'):NamesP w r (.returned (.tuple #[.agg #[.string ⟨#[]⟩,.int .u16 0,.string ⟨#[]⟩,.slice none 0 0],.int .i64 (k:Nat)])) w':=by
 subst hr
 exact ⟨Zs,rfl,SubAt.nil _ _,hb⟩
def RenH (x:Ex):Prop:=∀ (d:Nat) (v:Value) (w:World),rightE x d=true->fitE x=true->GWL w->SubAt w (· < w.heap.size) v x.sub->Calls Tryz.prog 15 #[exV x v] w (NamesP w (renE x))
theorem renA_len (s:List UInt8):(renA s).1.length<=s.length+1:=by
 unfold renA
 split
 ·simp
 ·split <;> simp
def nmR (o m:List UInt8):List UInt8:=if o=sN then (renA m).1 else m
theorem renE_eq (o:List UInt8) (n:Nat) (m:List UInt8) (s:List Ex):renE (.mk o n m s)=if o=sN/\(renA m).2≠0 then (ex0,(renA m).2) else if (renL s).2≠0 then (ex0,(renL s).2) else (.mk o n (nmR o m) (renL s).1,0):=by
 rw [renE];rfl
theorem renE_ok {x:Ex} (hf:fitE x=true):okE (renE x).1:=by
 obtain ⟨o,n,m,s⟩:=x
 simp only [fitE,Bool.and_eq_true,decide_eq_true_eq] at hf
 rw [renE_eq]
 split
 ·exact ⟨by simp [ex0,Ex.n],by simp [ex0,Ex.op,maxLen],by simp [ex0,Ex.name,maxLen]⟩
 ·split
  ·exact ⟨by simp [ex0,Ex.n],by simp [ex0,Ex.op,maxLen],by simp [ex0,Ex.name,maxLen]⟩
  ·have:=renA_len m
   refine ⟨hf.1.1.1,?_,?_⟩
   ·show o.length<=maxLen
    unfold maxLen;omega
   ·show (nmR o m).length<=maxLen
    unfold nmR maxLen
    split <;> omega
theorem binds_le (o:List UInt8):(bindsE o).2<=2:=by
 unfold bindsE
 repeat' split
 all_goals decide
theorem rightL_at:∀ (s:List Ex) (d:Nat),rightL s d=true->∀ j (hj:j<s.length),rightE s[j] d=true:=by
 intro s
 induction s with
 | nil=>intro d _ j hj;simp at hj
 | cons a r ih=>
  intro d hf j hj
  simp only [rightL,Bool.and_eq_true] at hf
  cases j with
  | zero=>exact hf.1
  | succ j=>exact ih d hf.2 j (by simpa using hj)
theorem right_sub {o:List UInt8} {n:Nat} {m:List UInt8} {s:List Ex} {d:Nat} (h:rightE (.mk o n m s) d=true):s.length<=2/\∀ j (hj:j<s.length),rightE s[j] (d - 1)=true:=by
 simp only [rightE,Bool.and_eq_true] at h
 refine ⟨?_,rightL_at s _ h.2⟩
 have:=h.1.2
 unfold headE at this
 simp only [Bool.and_eq_true,beq_iff_eq] at this
 rw [this.1.1.2]
 exact binds_le o
theorem fitL_at:∀ s:List Ex,fitL s=true->∀ j (hj:j<s.length),fitE s[j]=true:=by
 intro s
 induction s with
 | nil=>intro _ j hj;simp at hj
 | cons a r ih=>
  intro hf j hj
  simp only [fitL,Bool.and_eq_true] at hf
  cases j with
  | zero=>exact hf.1
  | succ j=>exact ih hf.2 j (by simpa using hj)
theorem blk_off {w:World} {g i:Nat} {u:Value} {k:Nat} (h:k≠g):(w.setCell ⟨g,i,none⟩ u).heap[k]? = w.heap[k]?:=Below.heap_setCell _ _ _ k h
theorem SubAt.putOff {w:World} {S S':Nat->Prop} {v:Value} {l:List Ex} {b:Nat} (h:SubAt w S v l) (hS:∀ g,S g->g≠b/\S' g) (i:Nat) (u:Value):SubAt (w.setCell ⟨b,i,none⟩ u) S' v l:=
 h.keep (fun p hp=>World.cell?_of_block (Below.heap_setCell _ _ _ p.block (hS _ hp).1)) (fun g hg=>(hS g hg).2)
theorem names_step (o:List UInt8) (n:Nat) (m:List UInt8) (s:List Ex) (ih:∀ e∈s,RenH e):RenH (.mk o n m s):=by
 intro dd v w hr hf hg hs
 obtain ⟨hs2,hrj⟩:=right_sub hr
 have hfs:fitL s=true/\m.length<=1000:=by simp only [fitE,Bool.and_eq_true,decide_eq_true_eq] at hf;exact ⟨hf.2,hf.1.2⟩
 have HFE:Hid (∀ j (hj:j<s.length),fitE s[j]=true):=LH (fitL_at s hfs.1)
 have HIH:=LH (fun j (hj:j<s.length) v w=>ih s[j] (List.getElem_mem hj) (dd - 1) v w (hrj j hj))
 have HS:=LH hs
 have HRN:=LH (fun W hW=>rename_any m (by omega) W hW)
 have HNM:Hid (nmR o m=if o=sN then (renA m).1 else m):=LH rfl
 have HRE:=LH (renE_eq o n m s)
 have HOK:=LH (renL_ok s)
 have HBAD:=LH (renL_bad s)
 unfold exV
 simp only [Ex.op,Ex.n,Ex.name,Ex.sub] at *
 obtain ⟨A,c,rfl,hc,hm⟩:=hs.form
 unfold maxLen at hm
 generalize renE (.mk o n m s)=res at *
 generalize nmR o m=nm at *
 generalize renA m=rm at *
 obtain ⟨rm1,rk⟩:=rm
 simp only at HRN HNM HRE
 clear hs hf hfs ih hrj hr
 have B2:=LH ((bra w (.cells #[Sx o,.int .u16 n,Sx m,.slice A s.length c] 34)).alloc (by simp) (.cells #[Sn,.int .u16 0,Sn,Zs] 34))
 have O0:=LH ((Below.heap_alloc (w.alloc (.cells #[Sx o,.int .u16 n,Sx m,.slice A s.length c] 34)) (.cells #[Sn,.int .u16 0,Sn,Zs] 34) w.heap.size (by simp)).trans (heap_alloc_new w (.cells #[Sx o,.int .u16 n,Sx m,.slice A s.length c] 34)))
 have O1:=LH (heap_alloc_new (w.alloc (.cells #[Sx o,.int .u16 n,Sx m,.slice A s.length c] 34)) (.cells #[Sn,.int .u16 0,Sn,Zs] 34))
 rw [show (w.alloc (.cells #[Sx o,.int .u16 n,Sx m,.slice A s.length c] 34)).heap.size=w.heap.size+1 by simp] at O1
 obtain ⟨ob,hob⟩:∃ ob,(o == sN)=ob:=⟨_,rfl⟩
 have HOB:=LH hob
 go_enter Tryz.func15, Tryz.ntmps15
 go_upto_if 13 with (fail)
 go_cut [4,5,14,15,16,17,18,19,20,21,22,23,24,25] (fun _ _ _ _ _ _ _ _ _ _ _ _ _ _ wx=>(o=sN->rk=0)/\Below w.heap.size w wx/\wx.heap[w.heap.size]? = some (.cells #[Sx o,.int .u16 n,Sx nm,.slice A s.length c] 34 (0,0)) /\
  wx.heap[w.heap.size+1]? = some (.cells #[Sn,.int .u16 0,Sn,Zs] 34 (0,0)))
 case first=>
  clear hob
  cases ob with
  | true=>
   have ho:o=sN:=by simpa using HOB.out
   rw [if_pos ho] at HNM
   have HO:=LH ho
   clear ho HOB
   go_wp2_with fail
   refine (HRN.out _ (hg.below B2.out)).mono ?_
   rintro e w3 ⟨rfl,hb3⟩
   have B3:=LH (bthen B2.out hb3)
   have P0:=LH ((hb3.block w.heap.size (by simp;omega)).trans O0.out)
   have P1:=LH ((hb3.block (w.heap.size+1) (by simp)).trans O1.out)
   obtain ⟨⟨x0,x1,x2,x3⟩,f0,f1,f2,f3⟩:=four P0.out
   obtain ⟨⟨z0,z1,z2,z3⟩,g0,g1,g2,g3⟩:=four P1.out
   clear hb3
   by_cases hk:rk=0
   ·have e5:((rk:Int) != 0)=false:=by rw [bne_eq_false_iff_eq];omega
    have HK:=LH hk
    clear hk z0 z1 z2 z3
    go_wp2_with fail
    go_meet
    refine ⟨fun _=>HK.out,B3.out.setCell (Nat.le_refl _) _,?_,(blk_off (by omega)).trans P1.out⟩
    rw [HNM.out,heap_set _ P0.out]
    rfl
   ·have e5:((rk:Int) != 0)=true:=by rw [bne_iff_ne];omega
    have HX:=LH (HRE.out.trans (if_pos ⟨HO.out,hk⟩))
    clear hk
    go_wp2_with fail
    refine bodyPost_ret (v:=.tuple #[.agg #[Sn,.int .u16 0,Sn,Zs],.int .i64 rk]) (by simp [results,Tryz.results15,go_sem,z0,z1,z2,z3]) rfl ?_
    rw [HX.out]
    refine NamesP.bad rk rfl ?_
    exact ((((B3.out.setCell (Nat.le_succ _) _).setCell (Nat.le_succ _) _).setCell (Nat.le_succ _) _).setCell (Nat.le_succ _) _)
  | false=>
   have ho:o≠sN:=by simpa using HOB.out
   rw [if_neg ho] at HNM
   have HO:=LH ho
   clear ho HOB
   go_wp2_with fail
   go_meet
   exact ⟨fun h=>absurd h HO.out,B2.out,by rw [HNM.out];exact O0.out,O1.out⟩
 case rest=>
  obtain ⟨hrk,hbc,hp0,hp1⟩:=hcut
  have HRE2:Hid (res=if (renL s).2≠0 then (ex0,(renL s).2) else (.mk o n nm (renL s).1,0)):=LH (by rw [HRE.out,if_neg (fun h=>h.2 (hrk h.1))])
  have BC:=LH hbc
  have P0:=LH hp0
  have P1:=LH hp1
  obtain ⟨⟨x0,x1,x2,x3⟩,f0,f1,f2,f3⟩:=four P0.out
  have hw0:w.heap.size+1<wc.heap.size:=loh hp1
  clear hrk hbc hp0 hp1 HRE HRN HNM B2 O0 O1
  go_wp2_with fail
  go_loopw [31] (fun i wr=>∃ (k:Nat) (us:List Value) (v:Value),k<=s.length/\i=.int .i64 k/\(∀ j (hj:j<s.length),j<k->(renE s[j]).2=0)/\Below w.heap.size w wr /\
   wr.heap[w.heap.size]? = some (.cells #[Sx o,.int .u16 n,Sx nm,v] 34 (0,0))/\wr.heap[w.heap.size+1]? = some (.cells #[Sn,.int .u16 0,Sn,Zs] 34 (0,0)) /\
   ExOwn wr (w.heap.size+2) v ((s.take k).map (fun e=>(renE e).1)) us) (fun i _=>s.length - (intOf i).toNat)
  case atStart=>
   refine ⟨0,[],Zs,Nat.zero_le _,rfl,fun j _ hj=>absurd hj (by omega),BC.out.setCell (Nat.le_refl _) _,?_,(blk_off (by omega)).trans P1.out,OwnV.nil _ _⟩
   rw [heap_set _ P0.out]
   rfl
  case round=>
   obtain ⟨k,us,v,hk,rfl,hpre,hbw,hx,hz,hown⟩:=hrel
   have HPRE:=LH hpre
   have HBW:=LH hbw
   have HX:=LH hx
   have HZ:=LH hz
   have HOW:=LH hown
   have hw0:w.heap.size+1<wr.heap.size:=loh hz
   have HKL:Hid (((s.take k).map (fun e=>(renE e).1)).length=k):=LH (by simp;omega)
   have hrow:=hown.2.1
   rw [HKL.out] at hrow
   obtain ⟨vA,vc,rfl,_,_,_⟩:=own_slice hrow (by omega)
   have HROW:=LH hrow
   obtain ⟨⟨x0,x1,x2,x3⟩,f0,f1,f2,f3⟩:=four hx
   obtain ⟨⟨z0,z1,z2,z3⟩,g0,g1,g2,g3⟩:=four hz
   clear hpre hbw hx hz hown hrow
   by_cases hlt:k<s.length
   ·have i1:(k:Int)<(s.length:Int):=by omega
    obtain ⟨g,q,sv,rfl,hgl,c0,c1,c2,c3,hsub,_⟩:=HS.out.get k hlt
    have d0:=(HBW.out.cell (p:=⟨g,q+k * 4,none⟩) hgl).trans c0
    have d1:=(HBW.out.cell (p:=⟨g,q+k * 4+1,none⟩) hgl).trans c1
    have d2:=(HBW.out.cell (p:=⟨g,q+k * 4+2,none⟩) hgl).trans c2
    have d3:=(HBW.out.cell (p:=⟨g,q+k * 4+3,none⟩) hgl).trans c3
    have HC:=LH (fun W (hW:Below w.heap.size w W)=>HIH.out k hlt sv W (HFE.out k hlt) (hg.below hW) (hsub.at hW hW.size))
    obtain ⟨sA,sc,rfl,_,_⟩:=hsub.form
    have HB0:=LH (HBAD.out k hlt HPRE.out)
    have HOKE:=LH (renE_ok (HFE.out k hlt))
    unfold exV at HC
    have HT:Hid ((renE s[k]).2=0->∀ j (hj:j<s.length),j<k+1->(renE s[j]).2=0):=LH (fun h j hj hjk=>by
     by_cases e:j=k
     ·subst e;exact h
     ·exact HPRE.out j hj (by omega))
    have HTK:Hid ((s.take (k+1)).map (fun e=>(renE e).1)=(s.take k).map (fun e=>(renE e).1)++[(renE s[k]).1]):=LH (by rw [List.take_succ_eq_append_getElem hlt,List.map_append];rfl)
    generalize s[k]=y at *
    generalize renE y=ry at *
    clear c0 c1 c2 c3 hsub
    obtain ⟨r1,rk2⟩:=ry
    simp only at HB0 HT HTK HOKE
    have BA:=LH (bra wr (.cells #[Sx y.op,.int .u16 y.n,Sx y.name,.slice sA y.sub.length sc] 34))
    go_wp2_with fail
    refine (HC.out _ (bthen HBW.out BA.out)).mono ?_
    rintro e w5 ⟨u,rfl,hsu,hb5⟩
    obtain ⟨uA,uc,rfl,_,_⟩:=hsu.form
    have B5:=LH (bthen BA.out hb5)
    have HSU:=LH hsu
    have Z5:=LH ((B5.out.block (w.heap.size+1) hw0).trans HZ.out)
    have X5:=LH ((B5.out.block w.heap.size (by omega)).trans HX.out)
    have hw5:w.heap.size+1<w5.heap.size:=loh Z5.out
    unfold exV
    clear hb5 hsu z0 z1 z2 z3 g0 g1 g2 g3 x0 x1 x2 x3 f0 f1 f2 f3
    by_cases hk0:rk2=0
    ·subst hk0
     have BE8:=LH ((B5.out.alloc B5.out.size (.cells (exCells r1 (.slice uA r1.sub.length uc)).toArray 34)).alloc (Nat.le_trans B5.out.size (by simp)) (.cells (exCells r1 (.slice uA r1.sub.length uc)).toArray 34))
     have HO8:=LH (OwnV.keep exSub_keep HOW.out BE8.out).2.1
     rw [HKL.out] at HO8
     have HN8:=LH (rd_new (w5.alloc (.cells (exCells r1 (.slice uA r1.sub.length uc)).toArray 34)) (w5.heap.size+1) (by simp) (exCells r1 (.slice uA r1.sub.length uc)) 34)
     have hb8:w.heap.size+2<=((w5.alloc (.cells (exCells r1 (.slice uA r1.sub.length uc)).toArray 34)).alloc (.cells (exCells r1 (.slice uA r1.sub.length uc)).toArray 34)).heap.size:=by simp;omega
     have X8:=LH (show ((w5.alloc (.cells (exCells r1 (.slice uA r1.sub.length uc)).toArray 34)).alloc (.cells (exCells r1 (.slice uA r1.sub.length uc)).toArray 34)).heap[w.heap.size]? = _ from ((Below.heap_alloc _ _ w.heap.size (by simp;omega)).trans (Below.heap_alloc _ _ w.heap.size (by omega))).trans X5.out)
     have Z8:=LH (show ((w5.alloc (.cells (exCells r1 (.slice uA r1.sub.length uc)).toArray 34)).alloc (.cells (exCells r1 (.slice uA r1.sub.length uc)).toArray 34)).heap[w.heap.size+1]? = _ from ((Below.heap_alloc _ _ (w.heap.size+1) (by simp;omega)).trans (Below.heap_alloc _ _ (w.heap.size+1) (by omega))).trans Z5.out)
     have HS8:=LH (show exSub ((w5.alloc (.cells (exCells r1 (.slice uA r1.sub.length uc)).toArray 34)).alloc (.cells (exCells r1 (.slice uA r1.sub.length uc)).toArray 34)) (fun g=>w.heap.size+2<=g/\g<((w5.alloc (.cells (exCells r1 (.slice uA r1.sub.length uc)).toArray 34)).alloc (.cells (exCells r1 (.slice uA r1.sub.length uc)).toArray 34)).heap.size/\(Value.slice vA k vc).ownBlock≠some g) (.slice uA r1.sub.length uc) r1 from
      SubAt.keep HSU.out (fun p hp=>((bra w5 _).alloc (by simp) _).cell hp.2) (fun g hg=>⟨by have:=hg.1;simp at this;omega,by have:=hg.2;simp;omega,fun hh=>by have:=own_block_lt HROW.out g hh;have:=hg.1;simp at this;omega⟩))
     have x3:=(four X5.out).1.2.2.2
     have x3a:=fun o=>new_keep (o:=o) x3
     have HT2:=LH (HT.out rfl)
     clear HB0 HT HC
     go_wp2_with (at_builtin;refine wpList_append_to _ rfl (.tmp 45) (.tmp 47) 32 rfl (w.heap.size+2) 34 _ 4 64 Tryz.underlying32 info_ex4 rfl (by omega) HO8.out rfl HN8.out rfl rfl (exCells_one r1 _ rfl) (by omega) (by omega) hb8 ?_;intro v9 w9 hown9 hbel9 hg9 hv9;obtain ⟨A9,c9,rfl,hc9,hm9,_⟩:=own_slice hown9 (by omega);have ON:=LH (OwnV.snoc exSub_keep HOW.out BE8.out HS8.out (by rw [HKL.out];exact hown9) hg9 hv9);have X9:=LH ((hbel9.block w.heap.size (by omega)).trans X8.out);have Z9:=LH ((hbel9.block (w.heap.size+1) (by omega)).trans Z8.out);have B9:=LH ((HBW.out.trans (BE8.out.mono (Nat.le_trans (by omega) HBW.out.size))).trans (hbel9.mono (by omega)));have hw9:=loh X9.out;obtain ⟨⟨q0,q1,q2,q3⟩,t0,t1,t2,t3⟩:=four X9.out;clear hown9 hbel9 hg9 hv9 x3 x3a hw5 hb8 HO8 HN8 HS8 X8 Z8 BE8)
     go_roundw
     case rel=>
      refine ⟨k+1,us++[.slice uA r1.sub.length uc],_,by omega,by go_num,HT2.out,B9.out.setCell (Nat.le_refl _) _,heap_set (i:=3) _ X9.out,(blk_off (by omega)).trans Z9.out,?_⟩
      rw [HTK.out]
      exact OwnV.set exSub_keep ON.out (by omega)
     case measure=>simp [intOf];omega
    ·have e5:((rk2:Int) != 0)=true:=by rw [bne_iff_ne];omega
     have hres:=HRE2.out.trans (if_pos (by rw [HB0.out hk0];exact hk0))
     rw [HB0.out hk0] at hres
     have HX2:=LH hres
     obtain ⟨⟨z0,z1,z2,z3⟩,g0,g1,g2,g3⟩:=four Z5.out
     have BW5:=LH (bthen HBW.out B5.out)
     clear hres hk0 HRE2 HB0 HT HTK
     go_wp2_with fail
     refine bodyPost_ret (v:=.tuple #[.agg #[Sn,.int .u16 0,Sn,Zs],.int .i64 rk2]) (by simp [results,Tryz.results15,go_sem,z0,z1,z2,z3,hw5]) rfl ?_
     rw [HX2.out]
     refine NamesP.bad rk2 rfl ?_
     exact ((((BW5.out.setCell (by show w.heap.size<=w.heap.size+1;omega) _).setCell (by show w.heap.size<=w.heap.size+1;omega) _).setCell (by show w.heap.size<=w.heap.size+1;omega) _).setCell (by show w.heap.size<=w.heap.size+1;omega) _).alloc (by simpa using BW5.out.size) _
   ·obtain rfl:k=s.length:=by omega
    have HR0:=HOK.out (fun j hj=>HPRE.out j hj hj)
    have hres:=HRE2.out
    rw [HR0,if_neg (by simp)] at hres
    have HX2:=LH hres
    have HSB:=LH (OwnV.subAt HOW.out (fun e he=>by
     obtain ⟨x,hx,rfl⟩:=List.mem_map.1 he
     rw [List.take_length] at hx
     obtain ⟨j,hj,rfl⟩:=List.getElem_of_mem hx
     exact renE_ok (HFE.out j hj)))
    rw [List.take_length] at HSB
    clear hres HR0 HRE2
    go_wp2_with fail
    refine bodyPost_ret (v:=.tuple #[.agg #[Sx o,.int .u16 n,Sx nm,.slice vA s.length vc],.int .i64 0]) (by simp [results,Tryz.results15,go_sem,z0,z1,z2,z3]) rfl ?_
    rw [HX2.out]
    refine ⟨.slice vA s.length vc,rfl,?_,?_⟩
    ·exact (((HSB.out.putOff (S':=fun g=>w.heap.size+2<=g/\g<wr.heap.size) (fun g hg=>⟨by omega,hg⟩) _ _).putOff (S':=fun g=>w.heap.size+2<=g/\g<wr.heap.size) (fun g hg=>⟨by omega,hg⟩) _ _).putOff (S':=fun g=>w.heap.size+2<=g/\g<wr.heap.size) (fun g hg=>⟨by omega,hg⟩) _ _).putOff (fun g hg=>⟨by omega,by omega,by simpa using hg.2⟩) _ _
    ·exact (((HBW.out.setCell (Nat.le_succ _) _).setCell (Nat.le_succ _) _).setCell (Nat.le_succ _) _).setCell (Nat.le_succ _) _
theorem names_any (x:Ex):RenH x:=Ex.ind (P:=RenH) (fun o n m s ih=>names_step o n m s ih) x
theorem wnum1_any (a:Ar) (v:Value) (W:World) (hs:SubAt W (· < W.heap.size) v a.e.sub):Calls Tryz.prog 96 (#[arV a v] ++ #[]) W fun e w'=>e=.returned (.bool (a.w == []))/\Below W.heap.size W w':=by
 obtain ⟨vA,vc,rfl,_,_⟩:=hs.form
 clear hs
 unfold arV
 have B1:=LH (bra W (.cells #[Sx a.w,Sx a.t,.bool a.is,.bool a.mem,Sx a.e.op,.int .u16 a.e.n,Sx a.e.name,.slice vA a.e.sub.length vc] 36))
 cases hx:(a.w == []) with
 | true=>
  have h1:a.w = []:=by simpa using hx
  rw [h1] at B1 ⊢
  clear hx h1
  simp only [Array.append_empty]
  go_enter Tryz.func96, Tryz.ntmps96
  go_wp2_with fail
  go_ret
  exact ⟨rfl,B1.out⟩
 | false=>
  have h2:a.w≠[]:=by simpa using hx
  have h1:=str_ne h2
  clear hx h2
  simp only [Array.append_empty]
  go_enter Tryz.func96, Tryz.ntmps96
  go_wp2_with fail
  go_ret
  exact ⟨rfl,B1.out⟩
theorem wnum1_enter (args:Array Value) (W:World):(callFunc 96 args).run Tryz.prog W=.ok (.enter 96 args) W:=enters_of Tryz.func96 (by kernel_rfl) rfl args W
theorem idx_pos (l:List Ar):idxA (fun a=>a.w == []) l=eI (exprPos l):=rfl
theorem wnumber_any (s:St) (v:Value) (w:World) (hs:ArAt w (· < w.heap.size) v s.args):Calls Tryz.prog 45 #[stV s v] w fun e w'=>e=.returned (.int .i64 (eI (exprPos s.args)))/\Below w.heap.size w w':=by
 have HI:=LH (fun W (hW:Below w.heap.size w W)=>idxA_gen (fun a=>a.w == []) s.args v 96 #[] W ⟨wnum1_enter,fun a v W2 _ _ h3=>wnum1_any a v W2 h3⟩ (hs.at hW hW.size))
 rw [idx_pos] at HI
 obtain ⟨A,c,rfl,hc,hm⟩:=hs.form
 unfold stV
 generalize eI (exprPos s.args)=r at *
 clear hs
 have B1:=LH (bra w (.cells #[Sx s.label,.bool s.colon,Sx s.op,.slice A s.args.length c] 46))
 go_enter Tryz.func45, Tryz.ntmps45
 go_wp2_with fail
 refine (HI.out _ B1.out).mono ?_
 rintro e w1 ⟨rfl,hb1⟩
 have B2:=LH (bthen B1.out hb1)
 clear hb1
 go_wp2_with fail
 go_ret
 exact ⟨rfl,B2.out⟩
theorem wwords_any (num:List UInt8) (s:St) (v:Value) (w:World) (hs:ArAt w (· < w.heap.size) v s.args) (hl:s.args.length<=1000) :
  Calls Tryz.prog 98 #[stV s v,.string ⟨num.toArray⟩] w fun e w'=>∃ u,e=.returned u/\RdS w' w'.heap.size u (wordsRw num s.args)/\Below w.heap.size w w':=by
 obtain ⟨lab,colon,op,l⟩:=s
 simp only at hs hl ⊢
 obtain ⟨A,c,rfl,hc,_⟩:=hs.form
 have HS:=LH hs
 unfold stV
 simp only
 clear hs
 have B0:=LH (bra w (.cells #[Sx lab,.bool colon,Sx op,.slice A l.length c] 46))
 go_enter Tryz.func98, Tryz.ntmps98
 go_wp2_with fail
 go_loopw [4,11] (fun u i wr=>∃ k:Nat,k<=l.length/\i=.int .i64 k/\wr.ownsRow w.heap.size 9 1 u k ((wordsRw num (l.take k)).map strV)/\Below w.heap.size w wr) (fun _ i _=>l.length - (intOf i).toNat)
 case atStart=>exact ⟨0,Nat.zero_le _,rfl,World.ownsRow_nil _ _ _ _,B0.out⟩
 case round=>
  obtain ⟨k,hk,rfl,hown,hbw⟩:=hrel
  have HOW:=LH hown
  have HBW:=LH hbw
  clear hown hbw
  by_cases hlt:k<l.length
  ·have i1:(k:Int)<(l.length:Int):=by omega
   obtain ⟨g,o,sv,rfl,hg,c0,c1,c2,c3,c4,c5,c6,c7,hsub⟩:=HS.out.get k hlt
   obtain ⟨SA,sc,rfl,_,_⟩:=hsub.form
   clear hsub
   have hh:=fun (j:Nat)=>HBW.out.cell (p:=⟨g,o+k * 8+j,none⟩) hg
   rw [← (HBW.out.cell (p:=⟨g,o+k * 8,none⟩) hg)] at c0
   rw [← hh 1] at c1
   rw [← hh 2] at c2
   rw [← hh 3] at c3
   rw [← hh 4] at c4
   rw [← hh 5] at c5
   rw [← hh 6] at c6
   rw [← hh 7] at c7
   have ht:l.take (k+1)=l.take k++[l[k]]:=List.take_succ_eq_append_getElem hlt
   have HF:Hid ((wordsRw num (l.take (k+1))).map strV=(wordsRw num (l.take k)).map strV++[strV (if l[k].w = [] then num else l[k].w)]):=LH (by rw [ht];unfold wordsRw;rw [List.map_append,List.map_append];rfl)
   generalize (wordsRw num (l.take k)).map strV=xs at *
   clear hh ht
   by_cases hp:l[k].w = []
   ·have A1:=LH (bra wr (.cells #[Sx num,.string ⟨l[k].t.toArray⟩,.bool l[k].is,.bool l[k].mem,.string ⟨l[k].e.op.toArray⟩,.int .u16 l[k].e.n,.string ⟨l[k].e.name.toArray⟩,.slice SA l[k].e.sub.length sc] 36))
    rw [if_pos hp] at HF
    rw [hp] at c0
    generalize l[k]=x at *
    have O2:=LH (own_bel HOW.out A1.out)
    have B2:=LH (bthen HBW.out A1.out)
    clear HOW A1 hp
    go_wp2_with (at_builtin;refine wpList_append_at _ (wr.heap.size+1) (by simp) rfl (.tmp 20) (.tmp 23) 53 rfl w.heap.size 9 _ 1 16 Tryz.underlying53 info_str rfl (by omega) O2.out rfl [Sx num] 9 rfl rfl (one_str _) (by omega) (by omega) B2.out.size ?_;intro v9 w9 hown9 hbel9)
    go_roundw
    case rel=>exact ⟨k+1,by omega,by go_num,by rw [HF.out];exact hown9,B2.out.trans hbel9⟩
    case measure=>simp [intOf];omega
   ·have A1:=LH (bra wr (.cells #[.string ⟨l[k].w.toArray⟩,.string ⟨l[k].t.toArray⟩,.bool l[k].is,.bool l[k].mem,.string ⟨l[k].e.op.toArray⟩,.int .u16 l[k].e.n,.string ⟨l[k].e.name.toArray⟩,.slice SA l[k].e.sub.length sc] 36))
    rw [if_neg hp] at HF
    have h1:=str_ne hp
    generalize l[k]=x at *
    have O2:=LH (own_bel HOW.out A1.out)
    have B2:=LH (bthen HBW.out A1.out)
    clear HOW A1 hp
    go_wp2_with (at_builtin;refine wpList_append_at _ (wr.heap.size+1) (by simp) rfl (.tmp 20) (.tmp 23) 53 rfl w.heap.size 9 _ 1 16 Tryz.underlying53 info_str rfl (by omega) O2.out rfl [Sx x.w] 9 rfl rfl (one_str _) (by omega) (by omega) B2.out.size ?_;intro v9 w9 hown9 hbel9)
    go_roundw
    case rel=>exact ⟨k+1,by omega,by go_num,by rw [HF.out];exact hown9,B2.out.trans hbel9⟩
    case measure=>simp [intOf];omega
  ·obtain rfl:k=l.length:=by omega
   have HR:Hid (RdS wr wr.heap.size u4 (wordsRw num l)):=LH (by
    have:=Rd.of_own HOW.out
    rw [List.take_length] at this
    unfold RdS
    rw [show (wordsRw num l).length=l.length by simp [wordsRw]]
    exact this)
   go_wp2_with fail
   go_ret
   exact ⟨_,rfl,HR.out,HBW.out⟩
end Go.Proofs.YtijgppokofganaaGreatDoor
