/- R8d. -/
import Derived.Test.YtagplldaooipmaaGreatDoorWb
import Derived.Test.YtagplldaooipmaaGreatDoorVb
import Derived.RegionTactic
import Derived.Deep.QuietTactic
import Derived.BigQuiet
namespace Go.Proofs.YtagplldaooipmaaGreatDoor
open Go.RowKit
set_option maxHeartbeats 2000000 in
set_option maxRecDepth 100000 in
theorem refBytes_any (l r:List UInt8) (v u:Value) (w:World) (hv:RdB w w.heap.size v l) (hu:RdB w w.heap.size u r) (hl:l.length ≤ 1000000) (hl2:r.length ≤ 1000000) :
  Calls Tryz.prog 169 #[v,u] w fun e w'=>e=.returned (.bool (decide (l=r)))∧∃ n,w'=w.drewN n:=by
 obtain ⟨A,c,rfl,hc⟩:=hv.form
 obtain ⟨B,d,rfl,hd⟩:=hu.form
 by_cases hn:l.length=r.length
 ·have HD:Hid (∀ k (h1:k < l.length) (h2:k < r.length),l.drop k=r.drop k ↔ (l[k]=r[k]∧l.drop (k + 1)=r.drop (k + 1))):=Lib.hid (fun k h1 h2=>by rw [List.drop_eq_getElem_cons h1,List.drop_eq_getElem_cons h2,List.cons.injEq])
  have e0:((l.length:Int) != (r.length:Int))=false:=by simp [hn]
  have HN:=Lib.hid hn
  clear hn
  go_enter Tryz.func169, Tryz.ntmps169
  go_wp2_with fail
  go_loopw [5] (fun i wr=>∃ k:Nat,k ≤ l.length∧i=.int .i64 k∧(∃ n,wr=w.drewN n)∧(l=r ↔ l.drop k=r.drop k)) (fun i _=>l.length - (intOf i).toNat)
  case atStart=>exact ⟨0,Nat.zero_le _,rfl,⟨0,rfl⟩,by simp⟩
  case round=>
   obtain ⟨k,hk,rfl,⟨n,rfl⟩,hi⟩:=hrel
   have HI:=Lib.hid hi
   clear hi
   by_cases hlt:k < l.length
   ·have hlt2:k < r.length:=by rw [← HN.out];exact hlt
    obtain ⟨g,o,hA,hg,ck0⟩:=hv.get k hlt
    have ck:=ck0 k hlt
    rw [show byteN l k=l[k].toNat by unfold byteN;simp [hlt]] at ck
    obtain ⟨g',o',hB,hg',dk0⟩:=hu.get k hlt2
    have dk:=dk0 k hlt2
    rw [show byteN r k=r[k].toNat by unfold byteN;simp [hlt2]] at dk
    clear ck0 dk0
    subst hA hB
    have HX:=Lib.hid (HI.out.trans (HD.out k hlt hlt2))
    clear HD HI
    have i0:(0:Int) ≤ (k:Int):=by omega
    have i1:(k:Int) < (l.length:Int):=by omega
    have i2:(k:Int) < (r.length:Int):=by omega
    by_cases hy:l[k]=r[k]
    ·have e1:(((l[k].toNat:Nat):Int) != ((r[k].toNat:Nat):Int))=false:=by simp [hy]
     have HZ:Hid (l=r ↔ l.drop (k + 1)=r.drop (k + 1)):=Lib.hid (by rw [HX.out];simp [hy])
     clear HX hy
     generalize l[k]=y at *
     generalize r[k]=z at *
     go_wp2_with fail
     go_quiet (fail)
     go_wp2_with fail
     exact ⟨⟨k + 1,by omega,by simp,⟨_,rfl⟩,HZ.out⟩,by simp [intOf];omega⟩
    ·have e1:(((l[k].toNat:Nat):Int) != ((r[k].toNat:Nat):Int))=true:=by
      rw [bne_iff_ne]
      intro h
      exact hy (UInt8.toNat_inj.1 (by omega))
     have HZ:Hid (decide (l=r)=false):=Lib.hid (by rw [decide_eq_false_iff_not,HX.out];exact fun h=>hy h.1)
     clear HX hy
     generalize l[k]=y at *
     generalize r[k]=z at *
     go_wp2_with fail
     go_quiet (fail)
     go_wp2_with fail
     go_ret
     exact ⟨ret_bool HZ.out.symm,_,by rw [World.drewN_drewN]⟩
   ·obtain rfl:k=l.length:=by omega
    have HZ:Hid (decide (l=r)=true):=Lib.hid (by rw [decide_eq_true_iff,HI.out,List.drop_length,HN.out,List.drop_length])
    clear HI HD
    go_wp2_with fail
    go_ret
    exact ⟨ret_bool HZ.out.symm,_,rfl⟩
 ·have e0:((l.length:Int) != (r.length:Int))=true:=by rw [bne_iff_ne];omega
  have HZ:Hid (decide (l=r)=false):=Lib.hid (by rw [decide_eq_false_iff_not];rintro rfl;exact hn rfl)
  clear hn
  go_enter Tryz.func169, Tryz.ntmps169
  go_wp2_with fail
  go_ret
  exact ⟨ret_bool HZ.out.symm,0,rfl⟩
set_option maxHeartbeats 1000000 in
theorem refBegins_any (l r:List UInt8) (v u:Value) (w:World) (hv:RdB w w.heap.size v l) (hu:RdB w w.heap.size u r) (hl:l.length ≤ 1000000) (_hl2:r.length ≤ 1000000) :
  Calls Tryz.prog 117 #[v,u] w fun e w'=>e=.returned (.bool (decide (l=r.take l.length)))∧∃ n,w'=w.drewN n:=by
 obtain ⟨A,c,rfl,hc⟩:=hv.form
 obtain ⟨B,d,rfl,hd⟩:=hu.form
 by_cases hn:l.length ≤ r.length
 ·have HQ:=Lib.hid (refBytes_any l (r.take l.length) (.slice A l.length c) (.slice B l.length d) w hv (RdB.take hu l.length hn) hl (by rw [List.length_take];omega))
  have e0:(l.length:Int) ≤ (r.length:Int):=by omega
  have e1:l.length ≤ d:=by omega
  have e2:(l.length:Int) ≤ (d:Int):=by omega
  generalize hq:decide (l=r.take l.length)=q at *
  clear hv hu hq
  go_enter Tryz.func117, Tryz.ntmps117
  go_wp2_with fail
  refine HQ.out.mono ?_
  rintro e w1 ⟨rfl,n,rfl⟩
  go_wp2_with fail
  go_ret
  exact ⟨rfl,n,rfl⟩
 ·have HZ:Hid (decide (l=r.take l.length)=false):=Lib.hid (by
   rw [decide_eq_false_iff_not]
   intro h
   have:=congrArg List.length h
   rw [List.length_take] at this
   omega)
  have e0:decide ((l.length:Int) ≤ (r.length:Int))=false:=by simp;omega
  clear hv hu
  go_enter Tryz.func117, Tryz.ntmps117
  go_wp2_with fail
  go_ret
  exact ⟨ret_bool HZ.out.symm,0,rfl⟩
end Go.Proofs.YtagplldaooipmaaGreatDoor
