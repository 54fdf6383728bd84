/- Xq. -/
import Derived.Test.YtfdcigbompkeoaaGreatDoorXm
import Derived.Test.YtfdcigbompkeoaaGreatDoorXp
namespace Go.Proofs.YtfdcigbompkeoaaGreatDoor
open Go.RowKit
theorem trimU_mark (l:List UInt8):trimU (l++[95])=trimU l:=by
 unfold trimU
 simp
theorem trimU_other (l:List UInt8) (c:UInt8) (h:c≠95):trimU (l++[c])=l++[c]:=by
 unfold trimU
 simp [h]
set_option maxHeartbeats 4000000 in
set_option maxRecDepth 100000 in
theorem refRename_any (s:List UInt8) (hs:s.length<=1000000) (w:World):Calls Tryz.prog 11 #[.string ⟨s.toArray⟩] w fun e w'=>e=.returned (.tuple #[.string ⟨(renA s).1.toArray⟩,.int .i64 ((renA s).2:Nat)])/\Below w.heap.size w w':=by
 have HV:Hid (renA s=if resB 1 (trimU s)=false∨resB 0 (trimU s)=true then (s,0) else if 16<=s.length then ([],11) else (s++[95],0)):=LH rfl
 generalize renA s=res at *
 go_enter Tryz.func11, Tryz.ntmps11
 go_wp2_with fail
 go_loopw [4] (fun i wr=>∃ n:Nat,n<=s.length/\i=.int .i64 n/\trimU (s.take n)=trimU s/\wr=w) (fun i _=>(intOf i).toNat)
 case atStart=>exact ⟨s.length,Nat.le_refl _,rfl,by rw [List.take_length],rfl⟩
 case round=>
  obtain ⟨n,hn,rfl,ht,rfl⟩:=hrel
  have HT:=LH ht
  clear ht
  by_cases hgo:∃ (m:Nat) (hm:m<s.length),n=m+1/\s[m]=95
  ·obtain ⟨m,hm,rfl,hc⟩:=hgo
   have HT2:Hid (trimU (s.take m)=trimU s):=LH (by rw [← HT.out,List.take_succ_eq_append_getElem hm,hc,trimU_mark])
   have e1:IntKind.i64.wrap ((m:Int)+1 - 1)=(m:Int):=by rw [IntWalk.i64_in _ (by omega)];omega
   have e2:(m:Int)+1 - 1=(m:Int):=by omega
   have e3:(0:Int)<(m:Int)+1:=by omega
   rw [show ((m+1:Nat):Int)=(m:Int)+1 by omega]
   go_wp2_with fail
   exact ⟨⟨m,by omega,rfl,HT2.out,trivial⟩,by simp [intOf]⟩
  ·by_cases hn0:n=0
   ·subst hn0
    have HROOT:Hid (([]:List UInt8)=trimU s):=LH (by rw [← HT.out];rfl)
    clear HT hgo
    have HZ:=LH (fun W=>rres_any 1 [] W)
    have HI:=LH (fun W=>rres_any 0 [] W)
    rw [← HROOT.out] at HV
    cases hz:resB 1 [] with
    | false=>
     have HX:=LH (HV.out.trans (if_pos (.inl hz)))
     rw [hz] at HZ
     clear HV HI hz
     go_wp2_with fail
     refine (HZ.out _).mono ?_
     rintro e w1 ⟨rfl,hb1⟩
     go_wp2_with fail
     go_ret2
     rw [HX.out]
     exact ⟨rfl,hb1⟩
    | true=>
     rw [hz] at HZ HV
     clear hz
     cases hi:resB 0 [] with
     | true=>
      have HX:=LH (HV.out.trans (if_pos (.inr hi)))
      rw [hi] at HI
      clear HV hi
      go_wp2_with fail
      refine (HZ.out _).mono ?_
      rintro e w1 ⟨rfl,hb1⟩
      go_wp2_with fail
      refine (HI.out _).mono ?_
      rintro e w2 ⟨rfl,hb2⟩
      go_wp2_with fail
      go_ret2
      rw [HX.out]
      exact ⟨rfl,bthen hb1 hb2⟩
     | false=>
      rw [hi] at HI HV
      clear hi
      by_cases hl:16<=s.length
      ·have q1:(16:Int)<=(s.length:Int):=by omega
       have HX:Hid (res=([],11)):=LH (by rw [HV.out,if_neg (by simp),if_pos hl])
       clear HV hl
       go_wp2_with fail
       refine (HZ.out _).mono ?_
       rintro e w1 ⟨rfl,hb1⟩
       go_wp2_with fail
       refine (HI.out _).mono ?_
       rintro e w2 ⟨rfl,hb2⟩
       go_wp2_with fail
       go_ret2
       rw [HX.out]
       exact ⟨rfl,bthen hb1 hb2⟩
      ·have q1:decide ((16:Int)<=(s.length:Int))=false:=by simp;omega
       have q2:¬ (16:Int)<=(s.length:Int):=by omega
       have HX:Hid (res=(s++[95],0)):=LH (by rw [HV.out,if_neg (by simp),if_neg hl])
       clear HV hl
       go_wp2_with fail
       refine (HZ.out _).mono ?_
       rintro e w1 ⟨rfl,hb1⟩
       go_wp2_with fail
       refine (HI.out _).mono ?_
       rintro e w2 ⟨rfl,hb2⟩
       go_wp2_with fail
       go_ret2
       rw [HX.out]
       exact ⟨rfl,bthen hb1 hb2⟩
   ·obtain ⟨m,rfl⟩:∃ m,n=m+1:=⟨n - 1,by omega⟩
    have hm:m<s.length:=by omega
    have hne:s[m]≠95:=fun h=>hgo ⟨m,hm,rfl,h⟩
    have HROOT:Hid (s.take (m+1)=trimU s):=LH (by rw [← HT.out,List.take_succ_eq_append_getElem hm,trimU_other _ _ hne])
    have e1:IntKind.i64.wrap ((m:Int)+1 - 1)=(m:Int):=by rw [IntWalk.i64_in _ (by omega)];omega
    have e2:(m:Int)+1 - 1=(m:Int):=by omega
    have e3:(0:Int)<(m:Int)+1:=by omega
    have e4:((s[m].toNat:Int) == 95)=false:=by
     rw [beq_eq_false_iff_ne]
     intro h
     exact hne (UInt8.toNat_inj.1 (by simpa using (by omega:s[m].toNat=95)))
    rw [show ((m+1:Nat):Int)=(m:Int)+1 by omega]
    clear HT hgo hne
    have HZ:=LH (fun W=>rres_any 1 (s.take (m+1)) W)
    have HI:=LH (fun W=>rres_any 0 (s.take (m+1)) W)
    rw [← HROOT.out] at HV
    cases hz:resB 1 (s.take (m+1)) with
    | false=>
     have HX:=LH (HV.out.trans (if_pos (.inl hz)))
     rw [hz] at HZ
     clear HV HI hz
     go_wp2_with fail
     refine (HZ.out _).mono ?_
     rintro e w1 ⟨rfl,hb1⟩
     go_wp2_with fail
     go_ret2
     rw [HX.out]
     exact ⟨rfl,hb1⟩
    | true=>
     rw [hz] at HZ HV
     clear hz
     cases hi:resB 0 (s.take (m+1)) with
     | true=>
      have HX:=LH (HV.out.trans (if_pos (.inr hi)))
      rw [hi] at HI
      clear HV hi
      go_wp2_with fail
      refine (HZ.out _).mono ?_
      rintro e w1 ⟨rfl,hb1⟩
      go_wp2_with fail
      refine (HI.out _).mono ?_
      rintro e w2 ⟨rfl,hb2⟩
      go_wp2_with fail
      go_ret2
      rw [HX.out]
      exact ⟨rfl,bthen hb1 hb2⟩
     | false=>
      rw [hi] at HI HV
      clear hi
      by_cases hl:16<=s.length
      ·have q1:(16:Int)<=(s.length:Int):=by omega
       have HX:Hid (res=([],11)):=LH (by rw [HV.out,if_neg (by simp),if_pos hl])
       clear HV hl
       go_wp2_with fail
       refine (HZ.out _).mono ?_
       rintro e w1 ⟨rfl,hb1⟩
       go_wp2_with fail
       refine (HI.out _).mono ?_
       rintro e w2 ⟨rfl,hb2⟩
       go_wp2_with fail
       go_ret2
       rw [HX.out]
       exact ⟨rfl,bthen hb1 hb2⟩
      ·have q1:decide ((16:Int)<=(s.length:Int))=false:=by simp;omega
       have q2:¬ (16:Int)<=(s.length:Int):=by omega
       have HX:Hid (res=(s++[95],0)):=LH (by rw [HV.out,if_neg (by simp),if_neg hl])
       clear HV hl
       go_wp2_with fail
       refine (HZ.out _).mono ?_
       rintro e w1 ⟨rfl,hb1⟩
       go_wp2_with fail
       refine (HI.out _).mono ?_
       rintro e w2 ⟨rfl,hb2⟩
       go_wp2_with fail
       go_ret2
       rw [HX.out]
       exact ⟨rfl,bthen hb1 hb2⟩
end Go.Proofs.YtfdcigbompkeoaaGreatDoor
