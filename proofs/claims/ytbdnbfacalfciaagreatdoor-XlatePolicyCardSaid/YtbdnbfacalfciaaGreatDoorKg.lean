/- Kg. -/
import Derived.Test.YtbdnbfacalfciaaGreatDoorKf
import Derived.Test.YtbdnbfacalfciaaGreatDoorKa
import Derived.Deep.RegionHeld3
import Derived.Deep.QuietTactic
import Derived.BigQuiet
namespace Go.Proofs.YtbdnbfacalfciaaGreatDoor
set_option maxRecDepth 100000
set_option maxHeartbeats 4000000
open Go.RowKit
theorem rightL_all (s:List Ex) (d:Nat):rightL s d=s.all (fun e=>rightE e d):=by
 induction s with
 | nil=>rfl
 | cons e s ih=>simp [rightL,ih]
theorem fitL_mem (s:List Ex) (h:fitL s=true):∀ e∈s,fitE e=true:=by
 induction s with
 | nil=>simp
 | cons a s ih=>
  simp only [fitL,Bool.and_eq_true] at h
  intro e he
  rcases List.mem_cons.1 he with rfl | he
  ·exact h.1
  ·exact ih h.2 e he
def RightH (sub:List Ex) (d:Nat):Prop:=∀ x∈sub,∀ (v:Value) (w:World),SubAt w (· < w.heap.size) v x.sub ->
 Calls Tryz.prog 193 #[.agg #[.string ⟨x.op.toArray⟩,.int .u16 x.n,.string ⟨x.name.toArray⟩,v],.int .i64 d] w fun e w'=>e=.returned (.bool (rightE x d))/\Below w.heap.size w w'
theorem rclo_any (sub:List Ex) (d:Nat) (hd:d<=1000) (hR:RightH sub d) (x:Ex) (hx:x∈sub) (v:Value) (bm:Nat) (w:World) (hs:SubAt w (· < w.heap.size) v x.sub) (hm:w.cell? ⟨bm,0,none⟩=some (.int .i64 ((d+1:Nat):Int))) :
  Calls Tryz.prog 229 #[.agg #[.string ⟨x.op.toArray⟩,.int .u16 x.n,.string ⟨x.name.toArray⟩,v],.pointer (some ⟨bm,0,none⟩)] w fun e w'=>e=.returned (.bool (!rightE x d))/\Below w.heap.size w w':=by
 obtain ⟨A,c,rfl,_,_⟩:=hs.form
 have hlt:=World.block_lt_of_cell? _ _ hm
 have HC:=LH (fun o=>hR x hx _ (w.alloc o) (hs.keep (fun p hp=>World.cell?_alloc_lt _ _ _ hp) (fun g (hg:g<w.heap.size)=>by simp;omega)))
 have hd':((d+1:Nat):Int) - 1=(d:Int):=by omega
 have hb1:((d+1:Nat):Int)<=1001:=by omega
 have hb2:(1:Int)<=((d+1:Nat):Int):=by omega
 generalize ((d+1:Nat):Int)=z at *
 generalize rightE x d=rb at *
 clear hR hs
 go_enter Tryz.func229, Tryz.ntmps229
 go_wp2_with fail
 refine (HC.out _).mono ?_
 rintro e w2 ⟨rfl,hb2⟩
 go_wp2_with fail
 go_ret
 exact ⟨rfl,((Below.refl _ _).alloc (Nat.le_refl _) _).trans (hb2.mono (by simp))⟩
theorem ridx_any (sub:List Ex) (d:Nat) (hd:d<=1000) (hR:RightH sub d) (v:Value) (bm:Nat) (w:World) (hs:SubAt w (· < w.heap.size) v sub) (hm:w.cell? ⟨bm,0,none⟩=some (.int .i64 ((d+1:Nat):Int))) :
  Calls Tryz.prog 249 #[v,.func (.func 229) #[] #[.pointer (some ⟨bm,0,none⟩)]] w fun e w'=>(∃ z:Int,e=.returned (.int .i64 z)/\decide (0<=z) = !rightL sub d)/\Below w.heap.size w w':=by
 obtain ⟨A,c,rfl,hc,hm2⟩:=hs.form
 unfold maxLen at hm2
 have hltm:=World.block_lt_of_cell? _ _ hm
 have HS:=LH hs
 have HM:=LH hm
 have HRL:=LH (rightL_all sub d)
 generalize rightL sub d=rl at *
 have HR:=LH hR
 clear hs hR hm
 go_enter Tryz.func249, Tryz.ntmps249
 go_wp2_with fail
 go_loopw [8] (fun i wr=>∃ k:Nat,k<=sub.length/\i=.int .i64 k/\(sub.take k).all (fun e=>rightE e d)=true/\Below w.heap.size w wr) (fun i _=>sub.length - (intOf i).toNat)
 case atStart=>exact ⟨0,Nat.zero_le _,rfl,rfl,Below.refl _ _⟩
 case round=>
  obtain ⟨k,hk,rfl,hall,hb⟩:=hrel
  have hsz:=hb.size
  have HALL:=LH hall
  clear hall
  by_cases hlt:k<sub.length
  ·obtain ⟨g,q,vk,rfl,hg,c0,c1,c2,c3,hsub,hn,_,_⟩:=HS.out.get k hlt
   obtain ⟨vA,vc,rfl,_,_⟩:=hsub.form
   have d0:=(hb.cell (p:=⟨g,q+k * 4,none⟩) hg).trans c0
   have d1:=(hb.cell (p:=⟨g,q+k * 4+1,none⟩) hg).trans c1
   have d2:=(hb.cell (p:=⟨g,q+k * 4+2,none⟩) hg).trans c2
   have d3:=(hb.cell (p:=⟨g,q+k * 4+3,none⟩) hg).trans c3
   have hsk:=(hsub.bel hb).more (S':=(· < wr.heap.size)) (fun x hx=>Nat.lt_of_lt_of_le hx hsz)
   have hmr:=(hb.cell (p:=⟨bm,0,none⟩) hltm).trans HM.out
   have HC:=LH (rclo_any sub d hd HR.out sub[k] (List.getElem_mem hlt) _ bm wr hsk hmr)
   have HT:Hid ((sub.take (k+1)).all (fun e=>rightE e d)=((sub.take k).all (fun e=>rightE e d) && rightE sub[k] d)):=LH (by rw [List.take_succ_eq_append_getElem hlt,List.all_append];simp)
   have HN:Hid (rightE sub[k] d=false->rl=false):=LH (fun h=>by rw [HRL.out,List.all_eq_false];exact ⟨sub[k],List.getElem_mem hlt,by simp [h]⟩)
   generalize sub[k]=ek at *
   clear c0 c1 c2 c3 hsub hsk hmr
   cases hre:rightE ek d with
   | true=>
    rw [hre] at HC HT
    clear hre
    go_wp2_with fail
    refine HC.out.mono ?_
    rintro e0 w5 ⟨rfl,hb5⟩
    go_wp2_with fail
    go_roundw
    case rel=>exact ⟨k+1,by omega,by go_num,by rw [HT.out,HALL.out];rfl,bthen hb hb5⟩
    case measure=>simp [intOf];omega
   | false=>
    rw [hre] at HC
    have hrl:=HN.out hre
    clear hre HN
    subst hrl
    go_wp2_with fail
    refine HC.out.mono ?_
    rintro e0 w5 ⟨rfl,hb5⟩
    go_wp2_with fail
    go_ret
    exact ⟨⟨_,rfl,by simp⟩,bthen hb hb5⟩
  ·obtain rfl:k=sub.length:=by omega
   have hrl:rl=true:=by rw [HRL.out];have:=HALL.out;rwa [List.take_length] at this
   subst hrl
   go_wp2_with fail
   go_ret
   exact ⟨⟨_,rfl,by simp⟩,hb⟩
theorem rcont_any (sub:List Ex) (d:Nat) (hd:d<=1000) (hR:RightH sub d) (v:Value) (bm:Nat) (w:World) (hs:SubAt w (· < w.heap.size) v sub) (hm:w.cell? ⟨bm,0,none⟩=some (.int .i64 ((d+1:Nat):Int))) :
  Calls Tryz.prog 228 #[v,.func (.func 229) #[] #[.pointer (some ⟨bm,0,none⟩)]] w fun e w'=>e=.returned (.bool (!rightL sub d))/\Below w.heap.size w w':=by
 have HI:=LH (ridx_any sub d hd hR v bm w hs hm)
 obtain ⟨A,c,rfl,hc,hm2⟩:=hs.form
 generalize rightL sub d=rl at *
 clear hR hs hm
 go_enter Tryz.func228, Tryz.ntmps228
 go_wp2_with fail
 refine HI.out.mono ?_
 rintro e w2 ⟨⟨z,rfl,hz⟩,hb2⟩
 have HZ:=LH hz
 clear hz
 go_wp2_with fail
 go_ret
 exact ⟨ret_bool HZ.out,hb2⟩
theorem drewN_cell (w:World) (p:Addr):∀ n,(w.drewN n).cell? p=w.cell? p
 | 0=>rfl
 | n+1=>drewN_cell w.drew p n
theorem SubAt.empty (w:World) (S:Nat->Prop) (A:Option Addr) (c:Nat):SubAt w S (.slice A 0 c) []:=
 .mk A c [] (fun _=>.slice none 0 0) (by simp) (by simp) (fun h=>absurd h (by simp)) (fun i hi=>absurd hi (by simp)) (fun i hi=>absurd hi (by simp))
theorem rightE_mk (o:List UInt8) (n:Nat) (m:List UInt8) (s:List Ex) (most:Nat):rightE (.mk o n m s) most=(!(most == 0) && headE o n m s.length && rightL s (most - 1)):=by simp [rightE]
theorem headE_other (o:List UInt8) (n:Nat) (m:List UInt8) (k:Nat) (h:o≠sN):headE o n m k=(!((bindsE o).1 == 0) && k == (bindsE o).2 && (n == 0 || o == sNum) && m == []):=by unfold headE;rw [if_neg h]
theorem headE_name (n:Nat) (m:List UInt8) (k:Nat):headE sN n m k=(k == 0 && n == 0 && (nameB m && upper m == m && !wordE m)):=by
 unfold headE
 rw [if_pos rfl,show bindsE sN=(7,0) from rfl]
 simp [show (sN == sNum)=false from rfl]
theorem right_other (o:List UInt8) (n:Nat) (m:List UInt8) (s:List Ex) (most:Nat) (v:Value) (w:World) (hs:SubAt w (· < w.heap.size) v s) (hmo:most<=1000) (hRH:RightH s (most - 1)) (ho:o≠sN) :
  Calls Tryz.prog 193 #[.agg #[.string ⟨o.toArray⟩,.int .u16 n,.string ⟨m.toArray⟩,v],.int .i64 most] w fun e w'=>e=.returned (.bool (rightE (.mk o n m s) most))/\Below w.heap.size w w':=by
 have ho':(o == [110])=false:=by simpa using ho
 have HB:=LH (fun W=>binds_any o W)
 have HH:=headE_other o n m s.length ho
 have HR:=rightE_mk o n m s most
 rw [HH] at HR
 clear HH
 obtain ⟨A,c,rfl,hc,hm2⟩:=hs.form
 unfold maxLen at hm2
 have hsc:∀ (o1 o2:Obj),SubAt ((w.alloc o1).alloc o2) (· < ((w.alloc o1).alloc o2).heap.size) (.slice A s.length c) s:=fun o1 o2=>(hs.keep (fun p hp=>by rw [World.cell?_alloc_lt _ _ _ (by simp;omega),World.cell?_alloc_lt _ _ _ hp]) (fun g (hg:g<w.heap.size)=>by simp;omega))
 have HSC:=LH hsc
 clear hs hsc
 generalize bindsE o=br at *
 obtain ⟨rank,parts⟩:=br
 dsimp only at HR HB
 have HR':=LH HR
 clear HR
 generalize rightE (.mk o n m s) most=res at *
 by_cases h0:most=0
 ·have HRES:Hid (res=false):=LH (by rw [HR'.out,h0];rfl)
  subst h0
  go_enter Tryz.func193, Tryz.ntmps193
  go_wp2_with fail
  refine (HB.out _).mono ?_
  rintro e w1 ⟨rfl,rfl⟩
  go_wp2_with fail
  go_quiet (fail)
  go_wp2_with fail
  go_ret
  rw [HRES.out]
  exact ⟨rfl,below_dn (((Below.refl _ _).alloc (Nat.le_refl _) _).alloc (by simp) _) _⟩
 have h0':((most:Int) == 0)=false:=by rw [beq_eq_false_iff_ne];omega
 have h0b:(most == 0)=false:=by rw [beq_eq_false_iff_ne];exact h0
 rw [h0b] at HR'
 by_cases h1:rank=0
 ·have HRES:Hid (res=false):=LH (by rw [HR'.out,h1];rfl)
  subst h1
  clear h0 h0b
  go_enter Tryz.func193, Tryz.ntmps193
  go_wp2_with fail
  refine (HB.out _).mono ?_
  rintro e w1 ⟨rfl,rfl⟩
  go_wp2_with fail
  go_quiet (fail)
  go_wp2_with fail
  go_ret
  rw [HRES.out]
  exact ⟨rfl,below_dn (((Below.refl _ _).alloc (Nat.le_refl _) _).alloc (by simp) _) _⟩
 have h1':((rank:Int) == 0)=false:=by rw [beq_eq_false_iff_ne];omega
 have h1b:(rank == 0)=false:=by rw [beq_eq_false_iff_ne];exact h1
 rw [h1b] at HR'
 by_cases h2:s.length=parts
 ·subst h2
  have h2':((s.length:Int) != (s.length:Int))=false:=by simp
  have h2b:(s.length == s.length)=true:=by simp
  rw [h2b] at HR'
  have hmd:most - 1+1=most:=by omega
  have HCON:Hid (∀ (q:Nat) (o1:Obj),Calls Tryz.prog 228 #[.slice A s.length c,.func (.func 229) #[] #[.pointer (some ⟨w.heap.size+1,0,none⟩)]] (((w.alloc o1).alloc (.cells #[.int .i64 (most:Int)] 3)).drewN q) fun e w'=>e=.returned (.bool (!rightL s (most - 1)))/\Below (((w.alloc o1).alloc (.cells #[.int .i64 (most:Int)] 3)).drewN q).heap.size (((w.alloc o1).alloc (.cells #[.int .i64 (most:Int)] 3)).drewN q) w'):=LH (fun q o1=>
   rcont_any s (most - 1) (by omega) hRH _ (w.heap.size+1) _ ((HSC.out o1 _).keep (fun p _=>by rw [drewN_cell]) (fun g hg=>by simpa using hg)) (by rw [drewN_cell,hmd];exact coh (heap_last (by simp) _)))
  by_cases h3:n=0
  ·subst h3
   by_cases h4:m = []
   ·have HRES:Hid (res=rightL s (most - 1)):=LH (by rw [HR'.out,h4];simp)
    subst h4
    clear h0 h1 h0b h1b h2b
    go_enter Tryz.func193, Tryz.ntmps193
    go_wp2_with fail
    refine (HB.out _).mono ?_
    rintro e w1 ⟨rfl,rfl⟩
    go_wp2_with fail
    go_quiet (fail)
    go_wp2_with fail
    refine (HCON.out _ _).mono ?_
    rintro e w2 ⟨rfl,hb2⟩
    go_wp2_with fail
    go_ret
    rw [HRES.out]
    exact ⟨by simp,(below_dn (((Below.refl _ _).alloc (Nat.le_refl _) _).alloc (by simp) _) _).trans (hb2.mono (by simp;omega))⟩
   ·have HRES:Hid (res=false):=LH (by rw [HR'.out,show (m == [])=false by simpa using h4];simp)
    have h4a:(m == [])=false:=by simpa using h4
    have h4b:m.isEmpty=false:=by simpa using h4
    clear h0 h1 h0b h1b h4 h2b
    go_enter Tryz.func193, Tryz.ntmps193
    go_wp2_with fail
    refine (HB.out _).mono ?_
    rintro e w1 ⟨rfl,rfl⟩
    go_wp2_with fail
    go_quiet (fail)
    go_wp2_with fail
    go_ret
    rw [HRES.out]
    exact ⟨rfl,below_dn (((Below.refl _ _).alloc (Nat.le_refl _) _).alloc (by simp) _) _⟩
  have h3b:(n == 0)=false:=by simpa using h3
  have h3c:((n:Int) != 0)=true:=by rw [bne_iff_ne];omega
  by_cases h5:o=sNum
  ·subst h5
   clear h3
   by_cases h4:m = []
   ·have HRES:Hid (res=rightL s (most - 1)):=LH (by rw [HR'.out,h4];simp)
    subst h4
    clear h0 h1 h0b h1b h2b
    go_enter Tryz.func193, Tryz.ntmps193
    go_wp2_with fail
    refine (HB.out _).mono ?_
    rintro e w1 ⟨rfl,rfl⟩
    go_wp2_with fail
    go_quiet (fail)
    go_wp2_with fail
    refine (HCON.out _ _).mono ?_
    rintro e w2 ⟨rfl,hb2⟩
    go_wp2_with fail
    go_ret
    rw [HRES.out]
    exact ⟨by simp,(below_dn (((Below.refl _ _).alloc (Nat.le_refl _) _).alloc (by simp) _) _).trans (hb2.mono (by simp;omega))⟩
   ·have HRES:Hid (res=false):=LH (by rw [HR'.out,show (m == [])=false by simpa using h4];simp)
    have h4a:(m == [])=false:=by simpa using h4
    have h4b:m.isEmpty=false:=by simpa using h4
    clear h0 h1 h0b h1b h4 h2b
    go_enter Tryz.func193, Tryz.ntmps193
    go_wp2_with fail
    refine (HB.out _).mono ?_
    rintro e w1 ⟨rfl,rfl⟩
    go_wp2_with fail
    go_quiet (fail)
    go_wp2_with fail
    go_ret
    rw [HRES.out]
    exact ⟨rfl,below_dn (((Below.refl _ _).alloc (Nat.le_refl _) _).alloc (by simp) _) _⟩
  ·have HRES:Hid (res=false):=LH (by rw [HR'.out,h3b,show (o == sNum)=false by simpa using h5];rfl)
   have h5a:(o == [35])=false:=by simpa using h5
   clear h0 h1 h0b h1b h2b h3 h5 h3b
   go_enter Tryz.func193, Tryz.ntmps193
   go_wp2_with fail
   refine (HB.out _).mono ?_
   rintro e w1 ⟨rfl,rfl⟩
   go_wp2_with fail
   go_quiet (fail)
   go_wp2_with fail
   go_ret
   rw [HRES.out]
   exact ⟨rfl,below_dn (((Below.refl _ _).alloc (Nat.le_refl _) _).alloc (by simp) _) _⟩
 ·have HRES:Hid (res=false):=LH (by rw [HR'.out,show (s.length == parts)=false by simpa using h2];rfl)
  have h2':((s.length:Int) != (parts:Int))=true:=by rw [bne_iff_ne];omega
  clear h0 h1 h0b h1b h2
  go_enter Tryz.func193, Tryz.ntmps193
  go_wp2_with fail
  refine (HB.out _).mono ?_
  rintro e w1 ⟨rfl,rfl⟩
  go_wp2_with fail
  go_quiet (fail)
  go_wp2_with fail
  go_ret
  rw [HRES.out]
  exact ⟨rfl,below_dn (((Below.refl _ _).alloc (Nat.le_refl _) _).alloc (by simp) _) _⟩
theorem right_name (n:Nat) (m:List UInt8) (s:List Ex) (most:Nat) (v:Value) (w:World) (hs:SubAt w (· < w.heap.size) v s) (hmo:most<=1000) (hRH:RightH s (most - 1)) (hml:m.length<=1000000) :
  Calls Tryz.prog 193 #[.agg #[.string ⟨#[110]⟩,.int .u16 n,.string ⟨m.toArray⟩,v],.int .i64 most] w fun e w'=>e=.returned (.bool (rightE (.mk sN n m s) most))/\Below w.heap.size w w':=by
 have HB:Hid (∀ W,Calls Tryz.prog 195 #[.string ⟨#[110]⟩] W fun e w'=>e=.returned (.tuple #[.int .i64 7,.int .i64 0])/\W=w'):=LH (fun W=>binds_any sN W)
 have HR:=rightE_mk sN n m s most
 rw [headE_name] at HR
 obtain ⟨A,c,rfl,hc,hm2⟩:=hs.form
 unfold maxLen at hm2
 have HN:=LH (fun W=>name_any m W hml)
 have HU:=LH (fun W=>upper_any m W hml)
 have HW:=LH (fun W=>word_any m W)
 have HR':=LH HR
 clear HR
 generalize rightE (.mk sN n m s) most=res at *
 cases hn:nameB m with
 | false=>
  rw [hn] at HN HR'
  have HRES:Hid (res=false):=LH (by rw [HR'.out];simp)
  have HN2:=LH (fun W=>(HN.out W).mono (fun _ _ h=>And.intro h.1 h.2.symm))
  go_enter Tryz.func193, Tryz.ntmps193
  go_wp2_with fail
  refine (HB.out _).mono ?_
  rintro e w1 ⟨rfl,rfl⟩
  go_wp2_with fail
  go_quiet ((go_at_call 141;exact Calls.quiet_of_same (HN2.out _)))
  go_wp2_with fail
  all_goals (
   go_ret
   rw [HRES.out]
   exact ⟨rfl,below_dn (((Below.refl _ _).alloc (Nat.le_refl _) _).alloc (by simp) _) _⟩)
 | true=>
  rw [hn] at HN HR'
  by_cases hu:upper m=m
  ·rw [hu] at HU HR'
   cases hw:wordE m with
   | true=>
    rw [hw] at HW HR'
    clear hn hu hw
    have HRES:Hid (res=false):=LH (by rw [HR'.out];simp)
    go_enter Tryz.func193, Tryz.ntmps193
    go_wp2_with fail
    refine (HB.out _).mono ?_
    rintro e w1 ⟨rfl,rfl⟩
    go_wp2_with fail
    first | (go_region_with (first | (go_at_call 141;(with_reducible refine (HN.out _).mono ?_);rintro e1 w2 ⟨rfl,rfl⟩) | (go_at_call 142;(with_reducible refine (HU.out _).mono ?_);rintro e1 w3 ⟨rfl,hb3⟩;obtain ⟨hcc,hff⟩:=bcell hb3) | (go_at_call 227;(with_reducible refine (HW.out _).mono ?_);rintro e1 w4 ⟨rfl,rfl⟩))) | fail
    all_goals (
     have hbw:=(((Below.refl w.heap.size w).alloc (Nat.le_refl _) _).alloc (by simp) _).drew.trans (hb3.mono (by simp;omega))
     go_wp2_with fail
     all_goals (
      go_ret
      rw [HRES.out]
      exact ⟨rfl,hbw⟩))
   | false=>
    rw [hw] at HW HR'
    clear hn hu hw
    by_cases h0:most=0
    ·subst h0
     have HRES:Hid (res=false):=LH (by rw [HR'.out];simp)
     go_enter Tryz.func193, Tryz.ntmps193
     go_wp2_with fail
     refine (HB.out _).mono ?_
     rintro e w1 ⟨rfl,rfl⟩
     go_wp2_with fail
     first | (go_region_with (first | (go_at_call 141;(with_reducible refine (HN.out _).mono ?_);rintro e1 w2 ⟨rfl,rfl⟩) | (go_at_call 142;(with_reducible refine (HU.out _).mono ?_);rintro e1 w3 ⟨rfl,hb3⟩;obtain ⟨hcc,hff⟩:=bcell hb3) | (go_at_call 227;(with_reducible refine (HW.out _).mono ?_);rintro e1 w4 ⟨rfl,rfl⟩))) | fail
     all_goals (
      have hbw:=(((Below.refl w.heap.size w).alloc (Nat.le_refl _) _).alloc (by simp) _).drew.trans (hb3.mono (by simp;omega))
      go_wp2_with fail
      all_goals (
       go_ret
       rw [HRES.out]
       exact ⟨rfl,hbw⟩))
    have h0':((most:Int) == 0)=false:=by rw [beq_eq_false_iff_ne];omega
    by_cases h1:s.length=0
    ·by_cases h2:n=0
     ·have hs0:s = []:=List.eq_nil_of_length_eq_zero h1
      subst hs0 h2
      have HRES:Hid (res=true):=LH (by rw [HR'.out];simp [rightL];omega)
      have hmd:most - 1+1=most:=by omega
      have HRH:=LH hRH
      clear h0 h1 hs
      go_enter Tryz.func193, Tryz.ntmps193
      go_wp2_with fail
      refine (HB.out _).mono ?_
      rintro e w1 ⟨rfl,rfl⟩
      go_wp2_with fail
      first | (go_region_with (first | (go_at_call 141;(with_reducible refine (HN.out _).mono ?_);rintro e1 w2 ⟨rfl,rfl⟩) | (go_at_call 142;(with_reducible refine (HU.out _).mono ?_);rintro e1 w3 ⟨rfl,hb3⟩;obtain ⟨hcc,hff⟩:=bcell hb3) | (go_at_call 227;(with_reducible refine (HW.out _).mono ?_);rintro e1 w4 ⟨rfl,rfl⟩))) | fail
      
      all_goals (
       have hbw:=(((Below.refl w.heap.size w).alloc (Nat.le_refl _) _).alloc (by simp) _).drew.trans (hb3.mono (by simp;omega))
       have hmc:w3.cell? ⟨w.heap.size+1,0,none⟩=some (.int .i64 ((most - 1+1:Nat):Int)):=by rw [hmd,hcc _ _ (by simp)];exact coh (heap_last (by simp) _)
       have HCON:=LH (rcont_any [] (most - 1) (by omega) HRH.out (.slice A 0 c) (w.heap.size+1) w3 (SubAt.empty w3 _ A c) hmc)
       clear hmc
       go_wp2_with fail
       refine HCON.out.mono ?_
       rintro e5 w5 ⟨rfl,hb5⟩
       go_wp2_with fail
       go_ret
       rw [HRES.out]
       exact ⟨by simp [rightL],hbw.trans (hb5.mono hbw.size)⟩)
     ·have HRES:Hid (res=false):=LH (by rw [HR'.out];simp [h2])
      have h2':((n:Int) != 0)=true:=by rw [bne_iff_ne];omega
      have h1':((s.length:Int) != 0)=false:=by rw [h1];rfl
      clear h0 h1 h2
      go_enter Tryz.func193, Tryz.ntmps193
      go_wp2_with fail
      refine (HB.out _).mono ?_
      rintro e w1 ⟨rfl,rfl⟩
      go_wp2_with fail
      first | (go_region_with (first | (go_at_call 141;(with_reducible refine (HN.out _).mono ?_);rintro e1 w2 ⟨rfl,rfl⟩) | (go_at_call 142;(with_reducible refine (HU.out _).mono ?_);rintro e1 w3 ⟨rfl,hb3⟩;obtain ⟨hcc,hff⟩:=bcell hb3) | (go_at_call 227;(with_reducible refine (HW.out _).mono ?_);rintro e1 w4 ⟨rfl,rfl⟩))) | fail
      all_goals (
       have hbw:=(((Below.refl w.heap.size w).alloc (Nat.le_refl _) _).alloc (by simp) _).drew.trans (hb3.mono (by simp;omega))
       go_wp2_with fail
       all_goals (
        go_ret
        rw [HRES.out]
        exact ⟨rfl,hbw⟩))
    ·have HRES:Hid (res=false):=LH (by rw [HR'.out];simp [h1])
     have h1':((s.length:Int) != 0)=true:=by rw [bne_iff_ne];omega
     clear h0 h1
     go_enter Tryz.func193, Tryz.ntmps193
     go_wp2_with fail
     refine (HB.out _).mono ?_
     rintro e w1 ⟨rfl,rfl⟩
     go_wp2_with fail
     first | (go_region_with (first | (go_at_call 141;(with_reducible refine (HN.out _).mono ?_);rintro e1 w2 ⟨rfl,rfl⟩) | (go_at_call 142;(with_reducible refine (HU.out _).mono ?_);rintro e1 w3 ⟨rfl,hb3⟩;obtain ⟨hcc,hff⟩:=bcell hb3) | (go_at_call 227;(with_reducible refine (HW.out _).mono ?_);rintro e1 w4 ⟨rfl,rfl⟩))) | fail
     all_goals (
      have hbw:=(((Below.refl w.heap.size w).alloc (Nat.le_refl _) _).alloc (by simp) _).drew.trans (hb3.mono (by simp;omega))
      go_wp2_with fail
      all_goals (
       go_ret
       rw [HRES.out]
       exact ⟨rfl,hbw⟩))
  ·have HRES:Hid (res=false):=LH (by rw [HR'.out];simp [hu])
   have hu':(upper m == m)=false:=by simpa using hu
   clear hn hu
   go_enter Tryz.func193, Tryz.ntmps193
   go_wp2_with fail
   refine (HB.out _).mono ?_
   rintro e w1 ⟨rfl,rfl⟩
   go_wp2_with fail
   first | (go_region_with (first | (go_at_call 141;(with_reducible refine (HN.out _).mono ?_);rintro e1 w2 ⟨rfl,rfl⟩) | (go_at_call 142;(with_reducible refine (HU.out _).mono ?_);rintro e1 w3 ⟨rfl,hb3⟩;obtain ⟨hcc,hff⟩:=bcell hb3) | (go_at_call 227;(with_reducible refine (HW.out _).mono ?_);rintro e1 w4 ⟨rfl,rfl⟩))) | fail
   all_goals (
    have hbw:=(((Below.refl w.heap.size w).alloc (Nat.le_refl _) _).alloc (by simp) _).drew.trans (hb3.mono (by simp;omega))
    go_wp2_with fail
    all_goals (
     go_ret
     rw [HRES.out]
     exact ⟨rfl,hbw⟩))
theorem right_any (e:Ex):∀ (most:Nat) (v:Value) (w:World),most<=1000->fitE e=true->SubAt w (· < w.heap.size) v e.sub ->
  Calls Tryz.prog 193 #[.agg #[.string ⟨e.op.toArray⟩,.int .u16 e.n,.string ⟨e.name.toArray⟩,v],.int .i64 most] w fun r w'=>r=.returned (.bool (rightE e most))/\Below w.heap.size w w':=by
 induction e using Ex.ind with
 | h o n m s ih=>
  intro most v w hmo hf hs
  simp only [fitE,Bool.and_eq_true,decide_eq_true_eq] at hf
  have hR:RightH s (most - 1):=fun x hx v w hv=>ih x hx (most - 1) v w (by omega) (fitL_mem s hf.2 x hx) hv
  by_cases ho:o=sN
  ·subst ho
   exact right_name n m s most v w hs hmo hR (by omega)
  ·exact right_other o n m s most v w hs hmo hR ho
def rightK (e:Ex):Nat:=if rightE e 24 then 0 else 2
theorem Right_any (e:Ex) (v:Value) (w:World) (hf:fitE e=true) (hs:SubAt w (· < w.heap.size) v e.sub) :
  Calls Tryz.prog 145 #[.agg #[.string ⟨e.op.toArray⟩,.int .u16 e.n,.string ⟨e.name.toArray⟩,v]] w fun r w'=>r=.returned (.int .i64 (rightK e))/\Below w.heap.size w w':=by
 have HC:=LH (fun o=>right_any e 24 v (w.alloc o) (by omega) hf (hs.keep (fun p hp=>World.cell?_alloc_lt _ _ _ hp) (fun g (hg:g<w.heap.size)=>by simp;omega)))
 obtain ⟨A,c,rfl,_,_⟩:=hs.form
 have HK:Hid (rightK e=if rightE e 24 then 0 else 2):=LH rfl
 generalize rightK e=rk at *
 clear hs hf
 cases hr:rightE e 24 with
 | true=>
  rw [hr] at HC HK
  go_enter Tryz.func145, Tryz.ntmps145
  go_wp2_with fail
  refine (HC.out _).mono ?_
  rintro e0 w2 ⟨rfl,hb2⟩
  go_wp2_with fail
  go_ret
  rw [HK.out]
  exact ⟨rfl,((Below.refl _ _).alloc (Nat.le_refl _) _).trans (hb2.mono (by simp))⟩
 | false=>
  rw [hr] at HC HK
  go_enter Tryz.func145, Tryz.ntmps145
  go_wp2_with fail
  refine (HC.out _).mono ?_
  rintro e0 w2 ⟨rfl,hb2⟩
  go_wp2_with fail
  go_ret
  rw [HK.out]
  exact ⟨rfl,((Below.refl _ _).alloc (Nat.le_refl _) _).trans (hb2.mono (by simp))⟩
end Go.Proofs.YtbdnbfacalfciaaGreatDoor
