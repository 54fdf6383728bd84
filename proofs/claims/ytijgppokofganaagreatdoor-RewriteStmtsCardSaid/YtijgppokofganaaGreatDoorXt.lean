/- Xt. -/
import Derived.Test.YtijgppokofganaaGreatDoorXp
import Derived.Test.YtijgppokofganaaGreatDoorKo
import Derived.Test.YtijgppokofganaaGreatDoorKn
import Derived.Deep.RegionWith
import Derived.Deep.QuietTactic
import Derived.BigQuiet
import Derived.BigRegion
import Derived.Lib.QuietBelow
namespace Go.Proofs.YtijgppokofganaaGreatDoor
set_option maxRecDepth 100000
set_option maxHeartbeats 8000000
open Go.RowKit
theorem rdialect_any (d:Int) (w:World):Calls Tryz.prog 52 #[.int .i64 d] w fun e w'=>e=.returned (.bool (knownB d))/\w=w':=by
 by_cases h0:d=0
 ·subst h0
  go_enter Tryz.func52, Tryz.ntmps52
  go_wp2_with fail
  go_ret
  exact ⟨rfl,rfl⟩
 by_cases h1:d=1
 ·subst h1
  go_enter Tryz.func52, Tryz.ntmps52
  go_wp2_with fail
  go_ret
  exact ⟨rfl,rfl⟩
 by_cases h2:d=2
 ·subst h2
  go_enter Tryz.func52, Tryz.ntmps52
  go_wp2_with fail
  go_ret
  exact ⟨rfl,rfl⟩
 have hq:knownB d=false:=by
  unfold knownB
  rw [Bool.and_eq_false_iff,decide_eq_false_iff_not,decide_eq_false_iff_not]
  omega
 rw [hq]
 have e0:(d == 0)=false:=by simpa using h0
 have e1:(d == 1)=false:=by simpa using h1
 have e2:(d == 2)=false:=by simpa using h2
 clear h0 h1 h2 hq
 go_enter Tryz.func52, Tryz.ntmps52
 go_wp2_with fail
 go_ret
 exact ⟨rfl,rfl⟩
theorem rplain_any (d:Int) (x:List UInt8) (w:World) (hl:x.length<=1000000):Calls Tryz.prog 53 #[.int .i64 d,.string ⟨x.toArray⟩] w fun e w'=>e=.returned (.bool (plainB d x))/\Below w.heap.size w w':=by
 have HN:=LH (fun W=>refName_any x W hl)
 have HU:=LH (fun W=>refUpper_any x W hl)
 have HR:=LH (fun W=>rres_any d x W)
 unfold plainB greatB
 generalize nameB x=b0 at *
 generalize resB d x=b2 at *
 cases b0
 ·simp only [Bool.false_and]
  go_enter Tryz.func53, Tryz.ntmps53
  go_wp2_with fail
  refine (HN.out _).mono ?_
  rintro e w1 ⟨rfl,rfl⟩
  go_wp2_with fail
  go_ret
  exact ⟨rfl,Below.refl _ _⟩
 ·by_cases hu:upper x=x
  ·have u1:(upper x == x)=true:=by simpa using hu
   rw [u1]
   simp only [Bool.true_and]
   rw [hu] at HU
   clear hu u1
   cases b2
   ·by_cases h1:x=sEQU
    ·subst h1
     go_enter Tryz.func53, Tryz.ntmps53
     go_wp2_with fail
     refine (HN.out _).mono ?_
     rintro e w1 ⟨rfl,rfl⟩
     go_wp2_with fail
     refine (HU.out _).mono ?_
     rintro e w2 ⟨rfl,hb2⟩
     go_wp2_with fail
     refine (HR.out _).mono ?_
     rintro e w3 ⟨rfl,hb3⟩
     go_wp2_with fail
     go_ret
     exact ⟨rfl,bthen hb2 hb3⟩
    by_cases h2:x=sSET
    ·subst h2
     go_enter Tryz.func53, Tryz.ntmps53
     go_wp2_with fail
     refine (HN.out _).mono ?_
     rintro e w1 ⟨rfl,rfl⟩
     go_wp2_with fail
     refine (HU.out _).mono ?_
     rintro e w2 ⟨rfl,hb2⟩
     go_wp2_with fail
     refine (HR.out _).mono ?_
     rintro e w3 ⟨rfl,hb3⟩
     go_wp2_with fail
     go_ret
     exact ⟨rfl,bthen hb2 hb3⟩
    have hs:setsB x=false:=by unfold setsB;simp [h1,h2]
    rw [hs]
    have n1:(x == [69,81,85])=false:=str_ne h1
    have n2:(x == [83,69,84])=false:=str_ne h2
    clear h1 h2 hs
    go_enter Tryz.func53, Tryz.ntmps53
    go_wp2_with fail
    refine (HN.out _).mono ?_
    rintro e w1 ⟨rfl,rfl⟩
    go_wp2_with fail
    refine (HU.out _).mono ?_
    rintro e w2 ⟨rfl,hb2⟩
    go_wp2_with fail
    refine (HR.out _).mono ?_
    rintro e w3 ⟨rfl,hb3⟩
    go_wp2_with fail
    go_ret
    exact ⟨rfl,bthen hb2 hb3⟩
   ·go_enter Tryz.func53, Tryz.ntmps53
    go_wp2_with fail
    refine (HN.out _).mono ?_
    rintro e w1 ⟨rfl,rfl⟩
    go_wp2_with fail
    refine (HU.out _).mono ?_
    rintro e w2 ⟨rfl,hb2⟩
    go_wp2_with fail
    refine (HR.out _).mono ?_
    rintro e w3 ⟨rfl,hb3⟩
    go_wp2_with fail
    go_ret
    exact ⟨rfl,bthen hb2 hb3⟩
  ·have u1:(upper x == x)=false:=by simpa using hu
   rw [u1]
   simp only [Bool.and_false,Bool.false_and]
   generalize upper x=y at *
   clear hu
   go_enter Tryz.func53, Tryz.ntmps53
   go_wp2_with fail
   refine (HN.out _).mono ?_
   rintro e w1 ⟨rfl,rfl⟩
   go_wp2_with fail
   refine (HU.out _).mono ?_
   rintro e w2 ⟨rfl,hb2⟩
   go_wp2_with fail
   go_ret
   exact ⟨rfl,hb2⟩
theorem wordE_op (s:List UInt8):wordE s=decide (s∈opW):=by
 unfold wordE opW
 congr 1
 apply propext
 simp only [List.mem_cons,List.not_mem_nil,or_false]
theorem memB_cases (d:Int) (x:List UInt8) (h:memB d x=true):(d=1/\(x = [40,66,67,41]∨x = [40,68,69,41]∨x = [40,72,76,41]∨x = [40,83,80,41]))∨(d=2/\(x = [91,66,88,93]∨x = [91,83,73,93])):=by
 simpa [memB,memZ,mem8] using h
theorem memB_not (d:Int) (x:List UInt8) (h:memB d x=false):(d=1->x≠[40,66,67,41]/\x≠[40,68,69,41]/\x≠[40,72,76,41]/\x≠[40,83,80,41])/\(d=2->x≠[91,66,88,93]/\x≠[91,83,73,93]):=by
 simpa [memB,memZ,mem8] using h
theorem rword12_any (d:Int) (x:List UInt8) (w:World):Calls Tryz.prog 102 #[.int .i64 d,.string ⟨x.toArray⟩] w fun e w'=>e=.returned (.bool (wordB d x))/\Below w.heap.size w w':=by
  unfold wordB
  rw [← wordE_op]
  have HR:=LH (fun W=>rres_any d x W)
  have HW:=LH (fun W=>refWord_any x W)
  cases hm:memB d x
  · obtain ⟨m1,m2⟩:=memB_not d x hm
    clear hm
    simp only [Bool.false_or]
    generalize resB d x=b1 at *
    generalize wordE x=b2 at *
    by_cases h1:d=1
    · obtain ⟨n1,n2,n3,n4⟩:=m1 h1
      have n1:=str_ne n1
      have n2:=str_ne n2
      have n3:=str_ne n3
      have n4:=str_ne n4
      clear m1 m2
      subst h1
      cases b1
      all_goals (
        go_enter Tryz.func102, Tryz.ntmps102
        go_wp2_with fail
        refine (HR.out _).mono ?_
        rintro e w1 ⟨rfl,hb1⟩
        go_wp2_with fail
        first
        | (refine (HW.out _).mono ?_
           rintro e w2 ⟨rfl,rfl⟩
           go_wp2_with fail
           go_ret
           exact ⟨by cases b2 <;> rfl,hb1⟩)
        | (go_ret
           exact ⟨rfl,hb1⟩))
    by_cases h2:d=2
    · obtain ⟨n1,n2⟩:=m2 h2
      have n1:=str_ne n1
      have n2:=str_ne n2
      clear m1 m2 h1
      subst h2
      cases b1
      all_goals (
        go_enter Tryz.func102, Tryz.ntmps102
        go_wp2_with fail
        refine (HR.out _).mono ?_
        rintro e w1 ⟨rfl,hb1⟩
        go_wp2_with fail
        first
        | (refine (HW.out _).mono ?_
           rintro e w2 ⟨rfl,rfl⟩
           go_wp2_with fail
           go_ret
           exact ⟨by cases b2 <;> rfl,hb1⟩)
        | (go_ret
           exact ⟨rfl,hb1⟩))
    have e1:(d == 1)=false:=by simpa using h1
    have e2:(d == 2)=false:=by simpa using h2
    clear m1 m2 h1 h2
    cases b1
    all_goals (
      go_enter Tryz.func102, Tryz.ntmps102
      go_wp2_with fail
      refine (HR.out _).mono ?_
      rintro e w1 ⟨rfl,hb1⟩
      go_wp2_with fail
      first
      | (refine (HW.out _).mono ?_
         rintro e w2 ⟨rfl,rfl⟩
         go_wp2_with fail
         go_ret
         exact ⟨by cases b2 <;> rfl,hb1⟩)
      | (go_ret
         exact ⟨rfl,hb1⟩))
  · simp only [Bool.true_or]
    rcases memB_cases d x hm with ⟨rfl,rfl | rfl | rfl | rfl⟩ | ⟨rfl,rfl | rfl⟩
    all_goals (
      clear hm HR HW
      go_enter Tryz.func102, Tryz.ntmps102
      go_wp2_with fail
      go_ret
      exact ⟨rfl,Below.refl _ _⟩)
def RNamesH (x:Ex):Prop:=∀ (d:Nat) (v:Value) (w:World),d<=24->rightE x d=true->SubAt w (· < w.heap.size) v x.sub ->
 Calls Tryz.prog 104 #[.agg #[.string ⟨x.op.toArray⟩,.int .u16 x.n,.string ⟨x.name.toArray⟩,v]] w fun e w'=>∃ v',e=.returned v'/\Rd w' w'.heap.size v' (namesE x).length ((namesE x).map strV)/\Below w.heap.size w w'
theorem rnames_leaf (m:List UInt8) (n:Nat) (v:Value) (w:World) (hs:SubAt w (· < w.heap.size) v []) :
  Calls Tryz.prog 104 #[.agg #[.string ⟨#[110]⟩,.int .u16 n,.string ⟨m.toArray⟩,v]] w fun e w'=>∃ v',e=.returned v'/\Rd w' w'.heap.size v' 1 [.string ⟨m.toArray⟩]/\Below w.heap.size w w':=by
 obtain ⟨A,c,rfl,hc,hm⟩:=hs.form
 have hb:=bra w (.cells #[.string ⟨#[110]⟩,.int .u16 n,Sx m,.slice A 0 c] 34)
 have hn:=heap_alloc_new w (.cells #[.string ⟨#[110]⟩,.int .u16 n,Sx m,.slice A 0 c] 34)
 have HN:=LH hn
 clear hs hn
 go_enter Tryz.func104, Tryz.ntmps104
 go_wp2_with (at_builtin;refine wpList_append_at (w.alloc (.cells #[.string ⟨#[110]⟩,.int .u16 n,Sx m,.slice A 0 c] 34)) (w.heap.size+1) (by simp) rfl _ _ 53 rfl (w.heap.size+1) 9 _ 1 16 Tryz.underlying53 info_str rfl (by decide) (World.ownsRow_nil _ _ _ _) rfl [Sx m] 9 rfl rfl (one_str _) (by omega) (by omega) (by simp) ?_)
 intro v' w2 hown3 hb3
 have hb4:=LH (hb.trans (hb3.mono (Nat.le_succ _)))
 have c3:w2.cell? ⟨w.heap.size,3,none⟩=some (.slice A 0 c):=(hb3.cell (p:=⟨w.heap.size,3,none⟩) (Nat.lt_succ_self _)).trans (coh HN.out)
 have HO:=LH (Rd.of_own hown3)
 clear hown3 hb3 hb
 go_wp2_with fail
 go_loop [3,4] (fun o i=>o=v'/\i=.int .i64 0) (fun _ _=>0)
 case atStart=>exact ⟨rfl,rfl⟩
 case round=>
  obtain ⟨rfl,rfl⟩:=hrel
  go_wp2_with fail
  go_ret
  exact ⟨_,rfl,HO.out,hb4.out⟩
theorem rnames_node (o:List UInt8) (n:Nat) (m:List UInt8) (s:List Ex) (ho:(o == [110])=false) (d:Nat) (hd:d<=24) (hr:∀ x∈s,rightE x d=true) (hlen:(namesL s).length<=100000000) (ih:∀ x∈s,RNamesH x) (v:Value) (w:World) (hs:SubAt w (· < w.heap.size) v s) :
  Calls Tryz.prog 104 #[.agg #[.string ⟨o.toArray⟩,.int .u16 n,.string ⟨m.toArray⟩,v]] w fun e w'=>∃ v',e=.returned v'/\Rd w' w'.heap.size v' (namesL s).length ((namesL s).map strV)/\Below w.heap.size w w':=by
 obtain ⟨A,c,rfl,hc,hm⟩:=hs.form
 unfold maxLen at hm
 have HS:=LH hs
 have HI:=LH ih
 have HR:=LH hr
 clear hs ih hr
 go_enter Tryz.func104, Tryz.ntmps104
 go_wp2_with fail
 go_loopw [3,4] (fun v i wr=>∃ k:Nat,k<=s.length/\i=.int .i64 k/\wr.ownsRow (w.heap.size+1) 9 1 v (namesL (s.take k)).length ((namesL (s.take k)).map strV)/\Below (w.heap.size+1) (w.alloc (.cells #[Sx o,.int .u16 n,Sx m,.slice A s.length c] 34)) wr) (fun _ i _=>s.length - (intOf i).toNat)
 case atStart=>exact ⟨0,Nat.zero_le _,rfl,World.ownsRow_nil _ _ _ _,Below.refl _ _⟩
 case round=>
  obtain ⟨k,hk,rfl,hown,hB⟩:=hrel
  have hz:w.heap.size+1<=wr.heap.size:=by have:=hB.size;simpa using this
  have hb:Below w.heap.size w wr:=(bra _ _).trans (hB.mono (by omega))
  have HB:=LH hB
  have hsz:=hb.size
  have e3:=box_at hB 3 _ rfl
  clear hB
  by_cases hlt:k<s.length
  ·obtain ⟨g,q,vk,rfl,hg,c0,c1,c2,c3,hsub,hn,_,_⟩:=HS.out.get k hlt
   obtain ⟨vA,vc,rfl,_,_⟩:=hsub.form
   have d0:=(hb.cell (p:=⟨g,q+k * 4,none⟩) hg).trans c0
   have d1:=(hb.cell (p:=⟨g,q+k * 4+1,none⟩) hg).trans c1
   have d2:=(hb.cell (p:=⟨g,q+k * 4+2,none⟩) hg).trans c2
   have d3:=(hb.cell (p:=⟨g,q+k * 4+3,none⟩) hg).trans c3
   have hgr:g<wr.heap.size:=Nat.lt_of_lt_of_le hg hsz
   have HSK:=LH ((hsub.bel hb).more (S':=(· < wr.heap.size)) (fun x hx=>Nat.lt_of_lt_of_le hx hsz))
   have HC:Hid (Calls Tryz.prog 104 #[.agg #[.string ⟨s[k].op.toArray⟩,.int .u16 s[k].n,.string ⟨s[k].name.toArray⟩,.slice vA s[k].sub.length vc]] wr fun e w'=>∃ v',e=.returned v'/\Rd w' w'.heap.size v' (namesE s[k]).length ((namesE s[k]).map strV)/\Below wr.heap.size wr w'):=LH (HI.out s[k] (List.getElem_mem hlt) d _ _ hd (HR.out _ (List.getElem_mem hlt)) HSK.out)
   have HT:Hid (namesL (s.take (k+1))=namesL (s.take k)++namesE s[k]):=LH (by rw [List.take_succ_eq_append_getElem hlt,namesL_app];simp [namesL])
   have hl1:=Nat.le_trans (namesL_take s (k+1)) hlen
   rw [HT.out,List.length_append] at hl1
   generalize s[k]=x at *
   clear c0 c1 c2 c3 hsub
   go_wp2_with fail
   refine HC.out.mono ?_
   rintro e0 w5 ⟨v5,rfl,hrd5,hb5⟩
   obtain ⟨A5,c5,rfl,hc5⟩:=hrd5.form
   have hown2:=hown.kept (only_of_below hb5 none) (by cases u3.ownBlock <;> simp)
   have hb6:=bthen hb hb5
   have hz6:w.heap.size+1<=w5.heap.size:=by have:=hb5.size;omega
   go_wp2_with (at_builtin;refine wpList_append_rd w5 rfl _ _ 53 rfl (w.heap.size+1) 9 _ 1 16 Tryz.underlying53 info_str rfl (by decide) hown2 rfl hrd5 rfl (by simp) (strs_one _) (by omega) (by omega) hz6 ?_)
   intro v' w7 hown7 hb7 hgr7
   have H7:Hid (w7.ownsRow (w.heap.size+1) 9 1 v' (namesL (s.take (k+1))).length ((namesL (s.take (k+1))).map strV)):=LH (by rw [HT.out,List.map_append,List.length_append];exact hown7)
   have hb8:=(HB.out.trans (hb5.mono hz)).trans hb7
   clear hown hown2 hown7 hgr7 hb7 hb6 hrd5
   go_wp2_with fail
   go_roundw
   case rel=>exact ⟨k+1,by omega,by go_num,H7.out,hb8⟩
   case measure=>simp [intOf];omega
  ·obtain rfl:k=s.length:=by omega
   rw [List.take_length] at hown
   have HO:=LH (Rd.of_own hown)
   clear hown
   go_wp2_with fail
   go_ret
   exact ⟨_,rfl,HO.out,hb⟩
theorem RNames_any (e:Ex):RNamesH e:=by
 induction e using Ex.ind with
 | h o n m s ih=>
  intro d v w hd h hs
  have hl:=names_len _ d h
  have hp:2 ^ d<=2 ^ 24:=Nat.pow_le_pow_right (by omega) hd
  have hf:=rightE.form h
  cases hf with
  | num n d=>exact rnames_node sNum n [] [] (by decide) d (by omega) (by simp) (by simp [namesL]) (by simp) v w hs
  | name m d=>exact rnames_leaf m 0 v w hs
  | here d=>exact rnames_node sHere 0 [] [] (by decide) d (by omega) (by simp) (by simp [namesL]) (by simp) v w hs
  | neg a d hA=>exact rnames_node sNEG 0 [] [a] (by decide) d (by omega) (by simpa using hA) (by simp [namesE] at hl;omega) ih v w hs
  | not a d hA=>exact rnames_node sNOT 0 [] [a] (by decide) d (by omega) (by simpa using hA) (by simp [namesE] at hl;omega) ih v w hs
  | two o r a b d ho h1 h2=>
   have hn:=ho.binds.2.2.1
   have e1:namesE (.mk o 0 [] [a,b])=namesL [a,b]:=by simp [namesE,hn]
   have:=rnames_node o 0 [] [a,b] (by simpa using hn) d (by omega) (by simp [h1,h2]) (by rw [e1] at hl;omega) ih v w hs
   rw [e1]
   exact this
theorem refArg_any (a b:Ar) (v u:Value) (w:World) (hs:SubAt w (· < w.heap.size) v a.e.sub) (ht:SubAt w (· < w.heap.size) u b.e.sub) :
    Calls Tryz.prog 29 #[arV a v,arV b u] w fun e w'=>e=.returned (.bool (sameA a b))/\Below w.heap.size w w':=by
  have HQ:=LH (fun W (hW:Below w.heap.size w W)=>refSame_any a.e b.e v u W (hs.at hW hW.size) (ht.at hW hW.size))
  obtain ⟨A,c,rfl,hc,hm⟩:=hs.form
  obtain ⟨A',c',rfl,hc',hm'⟩:=ht.form
  clear hs ht hc hm hc' hm'
  obtain ⟨aw,at1,ais,amem,ae⟩:=a
  obtain ⟨bw,bt1,bis,bmem,be⟩:=b
  unfold arV sameA
  simp only at *
  generalize sameE ae be=res at *
  generalize ae.sub.length=sl at *
  generalize be.sub.length=tl at *
  obtain ⟨o,n,m,s⟩:=ae
  obtain ⟨o',n',m',s'⟩:=be
  simp only [Ex.op,Ex.n,Ex.name] at *
  have B2:=LH (show Below w.heap.size w ((w.alloc (.cells #[Sx aw,Sx at1,.bool ais,.bool amem,Sx o,.int .u16 n,Sx m,.slice A sl c] 36)).alloc (.cells #[Sx bw,Sx bt1,.bool bis,.bool bmem,Sx o',.int .u16 n',Sx m',.slice A' tl c'] 36)) from (bra _ _).alloc (by simp) _)
  by_cases h1:aw=bw
  · subst h1
    rw [show (aw == aw)=true by simp,Bool.true_and]
    by_cases h2:at1=bt1
    · subst h2
      rw [show (at1 == at1)=true by simp,Bool.true_and]
      cases ais <;> cases bis <;> cases amem <;> cases bmem
      all_goals (
        go_enter Tryz.func29, Tryz.ntmps29
        go_wp2_with fail
        first
        | (refine (HQ.out _ B2.out).mono ?_
           rintro e w1 ⟨rfl,hb1⟩
           go_wp2_with fail
           go_ret
           exact ⟨rfl,B2.out.trans (hb1.mono B2.out.size)⟩)
        | (go_ret
           exact ⟨rfl,B2.out⟩))
    · have n2:=str_ne h2
      rw [n2]
      simp only [Bool.false_and]
      clear h2
      go_enter Tryz.func29, Tryz.ntmps29
      go_wp2_with fail
      go_ret
      exact ⟨rfl,B2.out⟩
  · have n1:=str_ne h1
    rw [n1]
    simp only [Bool.false_and]
    clear h1
    go_enter Tryz.func29, Tryz.ntmps29
    go_wp2_with fail
    go_ret
    exact ⟨rfl,B2.out⟩
theorem rtext12_any (s:List UInt8) (w:World) (hl:s.length<=1000000):Calls Tryz.prog 103 #[.string ⟨s.toArray⟩] w fun e w'=>e=.returned (.bool (!s.any oddB))/\w=w':=by
 have HY:Hid (∀ k (hk:k<s.length),oddB s[k]=true->s.any oddB=true):=LH (fun k hk h=>List.any_eq_true.2 ⟨_,List.getElem_mem hk,h⟩)
 have HN:Hid ((∀ k (hk:k<s.length),oddB s[k]=false)->s.any oddB=false):=LH (fun h=>by
  rw [List.any_eq_false]
  intro x hx
  obtain ⟨j,hj,rfl⟩:=List.getElem_of_mem hx
  simp [h j hj])
 generalize s.any oddB=res at *
 go_enter Tryz.func103, Tryz.ntmps103
 go_wp2_with fail
 go_loop [3] (fun i=>∃ k:Nat,k<=s.length/\i=.int .i64 k/\∀ j (hj:j<s.length),j<k->oddB s[j]=false) (fun i=>s.length - (intOf i).toNat)
 case atStart=>exact ⟨0,Nat.zero_le _,rfl,fun j _ h=>absurd h (by omega)⟩
 case round=>
  obtain ⟨k,hk,rfl,hno⟩:=hrel
  have HNO:=LH hno
  clear hno
  by_cases hlt:k<s.length
  ·have e1:(k:Int)<(s.length:Int):=by omega
   cases ho:oddB s[k]
   ·have HS:Hid (∀ j (hj:j<s.length),j<k+1->oddB s[j]=false):=LH (fun j hj h=>by
     by_cases hjk:j=k
     ·subst hjk;exact ho
     ·exact HNO.out j hj (by omega))
    have hlt2:=LH (show k+1<=s.length from hlt)
    unfold oddB at ho
    have q1:(32:Int)<=((s[k].toNat:Nat):Int):=by simp at ho ⊢;omega
    have q2:((s[k].toNat:Nat):Int)<=(126:Int):=by simp at ho ⊢;omega
    clear ho
    go_wp2_with fail
    go_round
    case rel=>exact ⟨k+1,hlt2.out,by go_num,HS.out⟩
    case measure=>simp [intOf];omega
   ·have hr:=HY.out k hlt ho
    subst hr
    unfold oddB at ho
    by_cases q1:((s[k].toNat:Nat):Int)<32
    ·clear ho
     go_wp2_with fail
     go_ret
     exact ⟨rfl,rfl⟩
    ·have q1':(32:Int)<=((s[k].toNat:Nat):Int):=by omega
     have q2:(126:Int)<((s[k].toNat:Nat):Int):=by simp at ho;omega
     clear ho q1
     go_wp2_with fail
     go_ret
     exact ⟨rfl,rfl⟩
  ·have hr:res=false:=HN.out (fun j hj=>HNO.out j hj (by omega))
   subst hr
   go_wp2_with fail
   go_ret
   exact ⟨rfl,rfl⟩
theorem rightA_word12 (d:Int) (op:List UInt8) (a:Ar) (h:a.w≠[]):rightA d op a=(wordB d a.w && sameA a ⟨a.w,[],false,false,ex0⟩):=by
 obtain ⟨aw,at1,ais,amem,ae⟩:=a
 unfold rightA emptyA sameA
 rw [if_pos h]
 simp only [beq_self_eq_true,Bool.true_and]
 cases wordB d aw <;> cases sameE ae ex0 <;> cases amem <;> cases ais <;> simp
theorem rightA_text12 (d:Int) (op:List UInt8) (a:Ar) (h:a.w = []) (hi:a.is=true):rightA d op a=(op == sDB && !a.t.any oddB && sameA a ⟨[],a.t,true,false,ex0⟩):=by
 obtain ⟨aw,at1,ais,amem,ae⟩:=a
 simp only at h hi
 subst h;subst hi
 unfold rightA emptyA sameA
 rw [if_neg (by simp),if_pos rfl,quote_back]
 simp only
 cases at1.any oddB <;> cases sameE ae ex0 <;> cases amem <;> cases (op == sDB) <;> simp
theorem rarg12_word (d:Int) (op:List UInt8) (a:Ar) (v:Value) (w:World) (hw:a.w≠[]) (hs:SubAt w (· < w.heap.size) v a.e.sub) :
  Calls Tryz.prog 56 #[.int .i64 d,.string ⟨op.toArray⟩,arV a v] w fun e w'=>e=.returned (.bool (rightA d op a))/\Below w.heap.size w w':=by
 have HA:=LH (fun W (hW:Below w.heap.size w W)=>refArg_any a ⟨a.w,[],false,false,ex0⟩ v (Zs) W (hs.at hW hW.size) (SubAt.nil _ _))
 have HW:=LH (fun W=>rword12_any d a.w W)
 rw [rightA_word12 d op a hw]
 have n0:=str_ne hw
 have n0':a.w.isEmpty=false:=by simpa using hw
 obtain ⟨A,c,rfl,hc,hm⟩:=hs.form
 clear hs hc hm hw
 obtain ⟨aw,at1,ais,amem,ae⟩:=a
 unfold arV at HA
 unfold arV
 simp only at *
 generalize wordB d aw=wb at *
 generalize sameA _ _=sb at *
 generalize ae.sub.length=sl at *
 obtain ⟨o,n,m,s⟩:=ae
 simp only [Ex.op,Ex.n,Ex.name,ex0] at *
 cases wb
 ·simp only [Bool.false_and]
  clear HA
  go_enter Tryz.func56, Tryz.ntmps56
  go_wp2_with fail
  refine (HW.out _).mono ?_
  rintro e w1 ⟨rfl,hb1⟩
  have B1:=LH (bthen (bra _ _) hb1)
  clear hb1
  go_wp2_with fail
  go_ret
  exact ⟨rfl,B1.out⟩
 ·simp only [Bool.true_and]
  go_enter Tryz.func56, Tryz.ntmps56
  go_wp2_with fail
  refine (HW.out _).mono ?_
  rintro e w1 ⟨rfl,hb1⟩
  have B1:=LH (bthen (bra _ _) hb1)
  obtain ⟨c0,c1,c2,c3,c4,c5,c6,c7⟩:=cells8 ((hb1.block w.heap.size (by simp)).trans (heap_alloc_new w _))
  clear hb1
  go_wp2_with fail
  refine (HA.out _ B1.out).mono ?_
  rintro e w2 ⟨rfl,hb2⟩
  go_wp2_with fail
  go_ret
  exact ⟨rfl,bthen B1.out hb2⟩
theorem rarg12_text (d:Int) (op:List UInt8) (a:Ar) (v:Value) (w:World) (hw:a.w = []) (hi:a.is=true) (hl:a.t.length<=1000000) (hs:SubAt w (· < w.heap.size) v a.e.sub) :
  Calls Tryz.prog 56 #[.int .i64 d,.string ⟨op.toArray⟩,arV a v] w fun e w'=>e=.returned (.bool (rightA d op a))/\Below w.heap.size w w':=by
 have HA:=LH (fun W (hW:Below w.heap.size w W)=>refArg_any a ⟨[],a.t,true,false,ex0⟩ v (Zs) W (hs.at hW hW.size) (SubAt.nil _ _))
 have HT:=LH (fun W=>(rtext12_any a.t W hl).mono fun _ _ h=>And.intro h.1 h.2.symm)
 rw [rightA_text12 d op a hw hi]
 obtain ⟨A,c,rfl,hc,hm⟩:=hs.form
 clear hs hc hm hl
 obtain ⟨aw,at1,ais,amem,ae⟩:=a
 simp only at hw hi
 subst hw
 subst hi
 unfold arV at HA
 unfold arV
 simp only at *
 generalize (!at1.any oddB)=tb at *
 generalize sameA _ _=sb at *
 generalize ae.sub.length=sl at *
 obtain ⟨o,n,m,s⟩:=ae
 simp only [Ex.op,Ex.n,Ex.name,ex0] at *
 by_cases hop:op=sDB
 ·subst hop
  rw [show (sDB == sDB)=true by simp,Bool.true_and]
  cases tb
  ·simp only [Bool.false_and]
   clear HA
   go_enter Tryz.func56, Tryz.ntmps56
   go_wp2_with fail
   refine (HT.out _).mono ?_
   rintro e w1 ⟨rfl,rfl⟩
   go_wp2_with fail
   go_ret
   exact ⟨rfl,bra _ _⟩
  ·simp only [Bool.true_and]
   have B1:=LH (bra w (.cells #[Sn,Sx at1,Bt,.bool amem,Sx o,.int .u16 n,Sx m,.slice A sl c] 36))
   go_enter Tryz.func56, Tryz.ntmps56
   go_wp2_with fail
   refine (HT.out _).mono ?_
   rintro e w1 ⟨rfl,rfl⟩
   go_wp2_with fail
   refine (HA.out _ B1.out).mono ?_
   rintro e w2 ⟨rfl,hb2⟩
   go_wp2_with fail
   go_ret
   exact ⟨rfl,bthen B1.out hb2⟩
 ·have n1:=str_ne hop
  rw [n1]
  simp only [Bool.false_and]
  clear hop HA HT
  go_enter Tryz.func56, Tryz.ntmps56
  go_wp2_with fail
  go_ret
  exact ⟨rfl,bra _ _⟩
theorem rarg12_expr (d:Int) (op:List UInt8) (a:Ar) (v:Value) (w:World) (hw:a.w = []) (hi:a.is=false) (hf:fitA a) (hs:SubAt w (· < w.heap.size) v a.e.sub) :
  Calls Tryz.prog 56 #[.int .i64 d,.string ⟨op.toArray⟩,arV a v] w fun e w'=>e=.returned (.bool (rightA d op a))/\Below w.heap.size w w':=by
 have HE:=LH (fun W (hW:Below w.heap.size w W)=>RRight_any a.e v W hf.2.2 (hs.at hW hW.size))
 have HN:=LH (fun (hr:rightE a.e 24=true) W (hW:Below w.heap.size w W)=>RNames_any a.e 24 v W (by omega) hr (hs.at hW hW.size))
 have HL:=LH (fun (hr:rightE a.e 24=true)=>names_len a.e 24 hr)
 have HX:=LH (fun (hr:rightE a.e 24=true)=>names_short a.e 24 hr)
 have HR:Hid (rightA d op a=if a.t≠[]∨(a.mem=true/\d=0)∨rightE a.e 24=false then false else (namesE a.e).all (plainB d)):=LH (by unfold rightA;rw [if_neg (by simp [hw]),if_neg (by simp [hi])])
 generalize rightA d op a=res at *
 obtain ⟨A,c,rfl,hc,hm⟩:=hs.form
 clear hs hc hm hf
 obtain ⟨aw,at1,ais,amem,ae⟩:=a
 simp only at hw hi
 subst hw hi
 unfold arV
 simp only at *
 generalize rightE ae 24=re at *
 generalize namesE ae=ns at *
 generalize ae.sub.length=sl at *
 obtain ⟨o,n,m,s⟩:=ae
 simp only [Ex.op,Ex.n,Ex.name] at *
 have B1:=LH (bra w (.cells #[Sn,Sx at1,Bf,.bool amem,Sx o,.int .u16 n,Sx m,.slice A sl c] 36))
 by_cases hat:at1 = []
 ·subst hat
  by_cases hmd:amem=true/\d=0
  ·obtain ⟨rfl,rfl⟩:=hmd
   have HB:Hid (res=false):=LH (by rw [HR.out];simp)
   clear HR HE HN HL HX
   go_enter Tryz.func56, Tryz.ntmps56
   go_wp2_with fail
   go_ret
   rw [HB.out]
   exact ⟨rfl,B1.out⟩
  ·have hnm:amem=true->(d == 0)=false:=fun h=>by rw [beq_eq_false_iff_ne];exact fun h2=>hmd ⟨h,h2⟩
   cases re with
   | false=>
    have HB:Hid (res=false):=LH (by rw [HR.out];simp)
    clear HR hmd HN HL HX
    cases amem
    all_goals (
     first | have hd0:=hnm rfl | skip
     clear hnm
     go_enter Tryz.func56, Tryz.ntmps56
     go_wp2_with fail
     refine (HE.out _ B1.out).mono ?_
     rintro e w2 ⟨rfl,hb2⟩
     go_wp2_with fail
     go_ret
     rw [HB.out]
     exact ⟨rfl,bthen B1.out hb2⟩)
   | true=>
    have HB:Hid (res=ns.all (plainB d)):=LH (by rw [HR.out,if_neg];simp;exact fun h h2=>hmd ⟨h,h2⟩)
    have hnl:=HL.out rfl
    have HX2:=LH (fun x hx=>Nat.le_trans (HX.out rfl x hx) (show 16<=1000000 by omega))
    have HN2:=LH (HN.out rfl)
    have HY:Hid (∀ k (hk:k<ns.length),plainB d ns[k]=false->res=false):=LH (fun k hk h=>by rw [HB.out,List.all_eq_false];exact ⟨_,List.getElem_mem hk,by simp [h]⟩)
    have HZ:Hid ((∀ k (hk:k<ns.length),plainB d ns[k]=true)->res=true):=LH (fun h=>by
     rw [HB.out,List.all_eq_true]
     intro x hx
     obtain ⟨j,hj,rfl⟩:=List.getElem_of_mem hx
     exact h j hj)
    clear HR hmd HN HL HX HB
    cases amem
    all_goals (
     first | have hd0:=hnm rfl | skip
     clear hnm
     go_enter Tryz.func56, Tryz.ntmps56
     go_wp2_with fail
     refine (HE.out _ B1.out).mono ?_
     rintro e w2 ⟨rfl,hb2⟩
     have HB2:=LH (bthen B1.out hb2)
     obtain ⟨c0,c1,c2,c3,c4,c5,c6,c7⟩:=cells8 ((hb2.block w.heap.size (by simp)).trans (heap_alloc_new w _))
     clear hb2
     go_wp2_with fail
     refine (HN2.out _ HB2.out).mono ?_
     rintro e w3 ⟨v3,rfl,hr3,hb3⟩
     have HB3:=LH (bthen HB2.out hb3)
     obtain ⟨A3,k3,rfl,hk3⟩:=hr3.form
     have RD:=LH hr3
     clear hr3 hb3 c0 c1 c2 c3 c4 c5 c6 c7 HB2 HE HN2
     go_wp2_with fail
     go_loopw [8] (fun i wr=>∃ k:Nat,k<=ns.length/\i=.int .i64 k/\(∀ j (hj:j<ns.length),j<k->plainB d ns[j]=true)/\Below w3.heap.size w3 wr) (fun i _=>ns.length - (intOf i).toNat)
     case atStart=>exact ⟨0,Nat.zero_le _,rfl,fun j _ h=>absurd h (by omega),Below.refl _ _⟩
     case round=>
      obtain ⟨k,hk,rfl,hno,hbr⟩:=hrel
      have HNO:=LH hno
      have HBR:=LH hbr
      by_cases hlt:k<ns.length
      ·obtain ⟨g,q,rfl,hg,hck⟩:=rd_strR RD.out (by omega)
       have ck:=(hbr.cell (p:=⟨g,q+k,none⟩) hg).trans (hck k hlt)
       have e1:(k:Int)<(ns.length:Int):=by omega
       have HP:=LH (fun W=>rplain_any d ns[k] W (HX2.out _ (List.getElem_mem hlt)))
       have hlt2:=LH (show k+1<=ns.length from hlt)
       clear hck hno hbr
       have HYk:=LH (HY.out k hlt)
       have HS:Hid (plainB d ns[k]=true->∀ j (hj:j<ns.length),j<k+1->plainB d ns[j]=true):=LH (fun hp j hj h=>by
        by_cases hjk:j=k
        ·subst hjk;exact hp
        ·exact HNO.out j hj (by omega))
       generalize ns[k]=y at *
       generalize plainB d y=p at *
       cases p
       ·have hr:=HYk.out rfl
        subst hr
        clear HYk HS
        go_wp2_with fail
        refine (HP.out _).mono ?_
        rintro e w5 ⟨rfl,hb5⟩
        go_wp2_with fail
        go_ret
        exact ⟨rfl,bthen (bthen HB3.out HBR.out) hb5⟩
       ·have HS2:=LH (HS.out rfl)
        clear HYk HS
        go_wp2_with fail
        refine (HP.out _).mono ?_
        rintro e w5 ⟨rfl,hb5⟩
        go_wp2_with fail
        go_roundw
        case rel=>exact ⟨k+1,hlt2.out,by go_num,HS2.out,bthen HBR.out hb5⟩
        case measure=>simp [intOf];omega
      ·have hr:res=true:=HZ.out (fun j hj=>HNO.out j hj (by omega))
       clear hno hbr
       subst hr
       go_wp2_with fail
       go_ret
       exact ⟨rfl,bthen HB3.out HBR.out⟩)
 ·have HB:Hid (res=false):=LH (by rw [HR.out];simp [hat])
  have n0:=str_ne hat
  have n0':at1.isEmpty=false:=by simpa using hat
  clear hat HR HE HN HL HX
  go_enter Tryz.func56, Tryz.ntmps56
  go_wp2_with fail
  go_ret
  rw [HB.out]
  exact ⟨rfl,B1.out⟩
theorem rarg12_any (d:Int) (op:List UInt8) (a:Ar) (v:Value) (w:World) (hf:fitA a) (hs:SubAt w (· < w.heap.size) v a.e.sub) :
  Calls Tryz.prog 56 #[.int .i64 d,.string ⟨op.toArray⟩,arV a v] w fun e w'=>e=.returned (.bool (rightA d op a))/\Below w.heap.size w w':=by
 by_cases hw:a.w = []
 ·cases hi:a.is
  ·exact rarg12_expr d op a v w hw hi hf hs
  ·exact rarg12_text d op a v w hw hi (by have:=hf.2.1;omega) hs
 ·exact rarg12_word d op a v w hw hs
def p1R (d:Int) (s:St):Bool:=s.label == [] || plainB d s.label
def p2R (s:St):Bool:=(s.op == [] && s.args.length == 0) || (nameB s.op && upper s.op == s.op)
def p3R (s:St):Bool:=(!setsB s.op || !(s.label == [])) && (s.colon == (!(s.label == []) && !setsB s.op)) && decide (s.args.length<=32)
theorem rightS_12 (d:Int) (s:St):rightS d s=if knownB d=false then 1 else if (p1R d s && p2R s && p3R s && s.args.all (rightA d s.op))=true then 0 else 2:=by
 obtain ⟨lab,colon,op,args⟩:=s
 unfold rightS p1R p2R p3R greatB
 simp only
 by_cases hk:knownB d=false
 ·rw [if_pos hk,if_pos hk]
 ·rw [if_neg hk,if_neg hk]
  generalize args.all (rightA d op)=al
  generalize plainB d lab=pb
  generalize setsB op=sb
  cases op with
  | nil=>
   cases lab <;> cases args <;> cases pb <;> cases sb <;> cases colon <;> cases al <;> simp [nameB]
  | cons c r=>
   generalize nameB (c :: r)=nb
   generalize (upper (c :: r) == c :: r)=ub
   by_cases hl:args.length<=32
   ·have hl2:¬ 32<args.length:=by omega
    cases lab <;> cases nb <;> cases ub <;> cases pb <;> cases sb <;> cases colon <;> cases al <;> simp [hl,hl2]
   ·have hl2:32<args.length:=by omega
    cases lab <;> cases nb <;> cases ub <;> cases pb <;> cases sb <;> cases colon <;> cases al <;> simp [hl,hl2]
theorem box4 {w wr:World} {c0 c1 c2 c3:Value} {t:TypeId} (hb:Below (w.heap.size+1) (w.alloc (.cells #[c0,c1,c2,c3] t)) wr) :
  wr.cell? ⟨w.heap.size,0,none⟩=some c0/\wr.cell? ⟨w.heap.size,1,none⟩=some c1/\wr.cell? ⟨w.heap.size,2,none⟩=some c2/\wr.cell? ⟨w.heap.size,3,none⟩=some c3:=
 cells4 ((hb.block w.heap.size (by omega)).trans (heap_alloc_new w _))
theorem rright12_any (d:Int) (s:St) (v:Value) (w:World) (hf:fitS s) (hs:ArAt w (· < w.heap.size) v s.args) :
  Calls Tryz.prog 21 #[.int .i64 d,stV s v] w fun e w'=>e=.returned (.int .i64 (rightS d s:Nat))/\Below w.heap.size w w':=by
 have HD:=LH (fun W=>(rdialect_any d W).mono fun _ _ h=>And.intro h.1 h.2.symm)
 have HP:=LH (fun W=>rplain_any d s.label W (by have:=hf.1;omega))
 have HN:=LH (fun W=>(refName_any s.op W (by have:=hf.2.1;omega)).mono fun _ _ h=>And.intro h.1 h.2.symm)
 have HU:=LH (fun W=>refUpper_any s.op W (by have:=hf.2.1;omega))
 have HFA:=LH hf.2.2
 have HS:=LH hs
 have HR:=LH (rightS_12 d s)
 generalize hres:rightS d s=res at *
 clear hres
 obtain ⟨A,c,rfl,hc,hm⟩:=hs.form
 unfold maxLen at hm
 clear hs hf hc
 obtain ⟨lab,colon,op,args⟩:=s
 unfold stV
 unfold p1R p2R p3R at HR
 simp only at *
 generalize plainB d lab=pl at *
 generalize hub:(upper op == op)=ub at *
 have HUB:=LH hub
 clear hub
 generalize nameB op=nb at *
 generalize upper op=uop at *
 cases hkn:knownB d
 ·rw [hkn] at HD HR
  have HX:Hid (res=1):=LH HR.out
  clear HR hkn
  go_enter Tryz.func21, Tryz.ntmps21
  go_wp2_with fail
  refine (HD.out _).mono ?_
  rintro e w1 ⟨rfl,rfl⟩
  go_wp2_with fail
  go_ret
  rw [HX.out]
  exact ⟨rfl,bra _ _⟩
 rw [hkn] at HD HR
 clear hkn
 go_enter Tryz.func21, Tryz.ntmps21
 go_wp2_with fail
 refine (HD.out _).mono ?_
 rintro e w1 ⟨rfl,rfl⟩
 go_upto_region 3 with (fail)
 have B0:=LH (Below.refl (w.heap.size+1) (w.alloc (.cells #[Sx lab,.bool colon,Sx op,.slice A args.length c] 24)))
 obtain ⟨c0,c1,c2,c3⟩:=box4 B0.out
 go_cut [5] (fun v wx=>v=.bool (setsB op)/\Below (w.heap.size+1) (w.alloc (.cells #[Sx lab,.bool colon,Sx op,.slice A args.length c] 24)) wx)
 case first=>
  by_cases h1:op=sEQU
  ·subst h1
   go_wp2_with fail
   go_meet
   exact ⟨rfl,B0.out⟩
  by_cases h2:op=sSET
  ·subst h2
   go_wp2_with fail
   go_meet
   exact ⟨rfl,B0.out⟩
  have hs0:Hid (setsB op=false):=LH (by unfold setsB;simp [h1,h2])
  have n1:=str_ne h1
  have n2:=str_ne h2
  clear h1 h2
  go_wp2_with fail
  go_meet
  exact ⟨by rw [hs0.out],B0.out⟩
 case rest=>
  obtain ⟨rfl,hb⟩:=hcut
  have B1:=LH hb
  obtain ⟨c0,c1,c2,c3⟩:=box4 hb
  clear hb B0
  generalize setsB op=sb at *
  go_upto_region 4 with (fail)
  go_cut [6] (fun v wx=>v=.bool (lab == [] || pl)/\Below (w.heap.size+1) (w.alloc (.cells #[Sx lab,.bool colon,Sx op,.slice A args.length c] 24)) wx)
  case first=>
   by_cases h1:lab = []
   ·subst h1
    go_wp2_with fail
    go_meet
    exact ⟨rfl,B1.out⟩
   have n1:=str_ne h1
   have n1':lab.isEmpty=false:=by simpa using h1
   have N1:=LH n1
   clear h1
   go_wp2_with fail
   refine (HP.out _).mono ?_
   rintro e w2 ⟨rfl,hb2⟩
   go_wp2_with fail
   go_meet
   exact ⟨by rw [N1.out,Bool.false_or],B1.out.trans (hb2.mono (by have:=B1.out.size;simpa using this))⟩
  case rest=>
   obtain ⟨rfl,hb⟩:=hcut
   have B2:=LH hb
   have hz:w.heap.size<wc.heap.size:=by have:=hb.size;simp at this;omega
   obtain ⟨c0,c1,c2,c3⟩:=box4 hb
   clear hb B1
   generalize hp1:(lab == [] || pl)=p1 at *
   clear hp1
   go_upto_region 5 with (fail)
   go_cut [6] (fun v wx=>v=.bool (p1 && ((op == [] && args.length == 0) || (nb && ub)))/\Below (w.heap.size+1) (w.alloc (.cells #[Sx lab,.bool colon,Sx op,.slice A args.length c] 24)) wx)
   case first=>
    cases p1
    ·go_quiet (fail)
     go_wp2_with fail
     go_meet
     exact ⟨rfl,below_dn B2.out _⟩
    by_cases h1:op = []/\args.length=0
    ·obtain ⟨h1,h2⟩:=h1
     subst h1
     rw [h2] at c3
     go_quiet (fail)
     go_wp2_with fail
     go_meet
     exact ⟨by rw [h2];rfl,below_dn B2.out _⟩
    have H0:Hid ((op == [] && args.length == 0)=false):=LH (by
     cases ho:(op == [])
     ·rfl
     ·simp only [Bool.true_and,beq_eq_false_iff_ne]
      intro h2
      exact h1 ⟨by simpa using ho,h2⟩)
    have g1:(op == [])=false∨((op == [])=true/\((args.length:Int) == 0)=false):=by
     cases ho:(op == [])
     ·exact .inl rfl
     ·refine .inr ⟨rfl,?_⟩
      rw [beq_eq_false_iff_ne]
      intro h2
      exact h1 ⟨by simpa using ho,by omega⟩
    clear h1
    have k2:=cell_regrown c2
    have k3:=cell_regrown c3
    have cN:∀ d' os,Calls Tryz.prog 54 #[Sx op] (Go.Sort.grow (redrawn wc d') os) fun e w''=>e=.returned (.bool nb)/\∃ p:Regrown,w''=Go.Sort.grow (redrawn wc p.d) p.os:=fun d' os=>Calls.regrown_of ((HN.out _).mono fun _ _ h=>⟨h.1,h.2 ▸ Below.refl _ _⟩)
    have cU:∀ d' os,Calls Tryz.prog 55 #[Sx op] (Go.Sort.grow (redrawn wc d') os) fun e w''=>e=.returned (Sx uop)/\∃ p:Regrown,w''=Go.Sort.grow (redrawn wc p.d) p.os:=fun d' os=>Calls.regrown_of (HU.out _)
    have CN:=LH cN
    have CU:=LH cU
    clear cN cU HP HD HFA HS HR HN HU c0 c1 c2 c3 hm
    rcases g1 with g1 | ⟨g1,g2⟩
    all_goals (
     cases nb
     all_goals (
      refine wp_region_quiet_below (by kernel_rfl) (by kernel_rfl) ?_
      repeat (quiet_step (first | (go_at_call 54;exact CN.out _ _) | (go_at_call 55;exact CU.out _ _)))
      refine wpQuiet_nil ?_
      intro _ hw'
      obtain ⟨⟨dq,osq⟩,hw''⟩:=hw'
      subst hw''
      go_wp2_with fail
      go_meet
      exact ⟨by rw [H0.out,← HUB.out];simp,B2.out.trans ((below_regrown wc dq osq).mono (by omega))⟩))
   case rest=>
    obtain ⟨rfl,hb⟩:=hcut
    have B3:=LH hb
    obtain ⟨c0,c1,c2,c3⟩:=box4 hb
    clear hb B2 HP HN HU HUB HD
    generalize hp2:(p1 && ((op == [] && args.length == 0) || (nb && ub)))=p2 at *
    clear hp2
    go_upto_region 6 with (fail)
    go_cut [6] (fun v wx=>v=.bool (p2 && ((!sb || !(lab == [])) && (colon == (!(lab == []) && !sb)) && decide (args.length<=32)))/\Below (w.heap.size+1) (w.alloc (.cells #[Sx lab,.bool colon,Sx op,.slice A args.length c] 24)) wx)
    case first=>
     have hl:lab = []∨((lab == [])=false/\lab.isEmpty=false/\lab≠[]):=by
      cases lab with
      | nil=>exact .inl rfl
      | cons x r=>exact .inr ⟨rfl,rfl,by simp⟩
     have h32:decide ((args.length:Int)<=32)=decide (args.length<=32):=decide_eq_decide.2 (by omega)
     cases p2
     ·go_wp2_with fail
      go_meet
      exact ⟨rfl,B3.out⟩
     ·rcases hl with rfl | ⟨n1,n1',hne⟩
      ·cases sb <;> cases colon
       all_goals (
        go_wp2_with fail
        go_meet
        exact ⟨by first | rfl | simp,B3.out⟩)
      ·have HNE:=LH hne
       clear hne
       cases sb <;> cases colon
       all_goals (
        go_wp2_with fail
        go_meet
        exact ⟨by first | rfl | simp [HNE.out],B3.out⟩)
    case rest=>
     obtain ⟨rfl,hb⟩:=hcut
     have B4:=LH hb
     obtain ⟨c0,c1,c2,c3⟩:=box4 hb
     clear hb B3
     generalize hp3:((!sb || !(lab == [])) && (colon == (!(lab == []) && !sb)) && decide (args.length<=32))=p3 at *
     clear hp3
     generalize hr0:(p2 && p3)=r at *
     clear hr0
     have HF:Hid (r=false->res=2):=LH (fun h=>by rw [HR.out,h];simp)
     have HY:Hid (∀ k (hk:k<args.length),rightA d op args[k]=false->res=2):=LH (fun k hk h=>by
      rw [HR.out,if_neg (by simp),if_neg]
      rw [Bool.and_eq_true,List.all_eq_true]
      intro h2
      have:=h2.2 _ (List.getElem_mem hk)
      rw [h] at this
      cases this)
     have HZ:Hid (r=true->(∀ k (hk:k<args.length),rightA d op args[k]=true)->res=0):=LH (fun h h2=>by
      rw [HR.out,if_neg (by simp),if_pos]
      rw [Bool.and_eq_true,List.all_eq_true]
      refine ⟨h,fun x hx=>?_⟩
      obtain ⟨j,hj,rfl⟩:=List.getElem_of_mem hx
      exact h2 j hj)
     clear HR
     have HZS:=LH (show w.heap.size<(w.alloc (.cells #[Sx lab,.bool colon,Sx op,.slice A args.length c] 24)).heap.size by simp)
     go_wp2_with fail
     go_loopw [6,7] (fun v i wr=>∃ (k:Nat) (b:Bool),k<=args.length/\i=.int .i64 k/\v=.bool b/\(b=false->res=2)/\(b=true->r=true/\∀ j (hj:j<args.length),j<k->rightA d op args[j]=true)/\Below (w.heap.size+1) (w.alloc (.cells #[Sx lab,.bool colon,Sx op,.slice A args.length c] 24)) wr) (fun _ i _=>args.length - (intOf i).toNat)
     case atStart=>exact ⟨0,r,Nat.zero_le _,rfl,rfl,HF.out,fun h=>⟨h,fun j _ h=>absurd h (by omega)⟩,B4.out⟩
     case round=>
      obtain ⟨k,b,hk,rfl,rfl,hbf,hbt,hb⟩:=hrel
      have HB:=LH hb
      have HBF:=LH hbf
      have HBT:=LH hbt
      have hz1:w.heap.size+1<=wr.heap.size:=by have:=hb.size;simpa using this
      have hbw:Below w.heap.size w wr:=(bra _ _).trans (hb.mono (by omega))
      obtain ⟨b0,b1,b2,b3⟩:=box4 hb
      have HBW:=LH hbw
      clear hb hbf hbt c0 c1 c2 c3
      cases b
      ·have hres:=HBF.out rfl
       subst hres
       by_cases hlt:k<args.length
       ·have e1:(k:Int)<(args.length:Int):=by omega
        clear hbw
        go_wp2_with fail
        go_ret
        exact ⟨rfl,HBW.out⟩
       ·have e1:decide ((k:Int)<(args.length:Int))=false:=by simp;omega
        clear hbw
        go_wp2_with fail
        go_ret
        exact ⟨rfl,HBW.out⟩
      ·by_cases hlt:k<args.length
       ·obtain ⟨g,o,v1,hA,hgl,d0,d1,d2,d3,d4,d5,d6,d7,hs1⟩:=(HS.out.at hbw hbw.size).get k hlt
        subst hA
        obtain ⟨sA,sc,rfl,_,_⟩:=hs1.form
        have HC:=LH (rarg12_any d op args[k] _ wr.drew (HFA.out _ (List.getElem_mem hlt)) (hs1.keep (w':=wr.drew) (fun p _=>rfl) (fun _ h=>h)))
        have HYk:=LH (HY.out k hlt)
        have HSk:Hid (rightA d op args[k]=true->∀ j (hj:j<args.length),j<k+1->rightA d op args[j]=true):=LH (fun hp j hj h=>by
         by_cases hjk:j=k
         ·subst hjk;exact hp
         ·exact (HBT.out rfl).2 j hj (by omega))
        have HR1:=LH (HBT.out rfl).1
        have hlt2:=LH (show k+1<=args.length from hlt)
        have e1:(k:Int)<(args.length:Int):=by omega
        generalize args[k]=x at *
        generalize rightA d op x=rx at *
        unfold arV at HC
        clear hs1 hbw HBT HBF
        go_wp2_with fail
        go_still_tail 8,(by kernel_rfl)
        change wpList _ _ _ _ _ wr.drew
        go_wp2_with fail
        refine HC.out.mono ?_
        rintro e0 w5 ⟨rfl,hb5⟩
        go_wp2_with fail
        go_roundw
        case rel=>exact ⟨k+1,rx,hlt2.out,by go_num,rfl,HYk.out,fun h=>⟨HR1.out,HSk.out h⟩,HB.out.drew.trans (hb5.mono hz1)⟩
        case measure=>simp [intOf];omega
       ·have hres:=HZ.out (HBT.out rfl).1 (fun j hj=>(HBT.out rfl).2 j hj (by omega))
        subst hres
        have e1:decide ((k:Int)<(args.length:Int))=false:=by simp;omega
        clear hbw
        go_wp2_with fail
        go_ret
        exact ⟨rfl,HBW.out⟩
end Go.Proofs.YtijgppokofganaaGreatDoor
