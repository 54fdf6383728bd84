/- Xp. -/
import Derived.Test.YtfdcigbompkeoaaGreatDoorUa
import Derived.Test.YtfdcigbompkeoaaGreatDoorUb
import Derived.Test.YtfdcigbompkeoaaGreatDoorKd
import Derived.Test.YtfdcigbompkeoaaGreatDoorKa
import Derived.Test.YtfdcigbompkeoaaGreatDoorKn
import Derived.Test.YtfdcigbompkeoaaGreatDoorKe
import Derived.Test.YtfdcigbompkeoaaGreatDoorKm
namespace Go.Proofs.YtfdcigbompkeoaaGreatDoor
set_option maxHeartbeats 2000000
def wordsF:List UInt8->List UInt8->List (List UInt8)->List (List UInt8)
 | [],w,acc=>if w = [] then acc else acc++[w]
 | c :: r,w,acc=>if c=32 then wordsF r [] (acc++[w]) else wordsF r (w++[c]) acc
def wordsR (s:List UInt8):List (List UInt8):=wordsF s [] []
open Go.RowKit
def WordsP (w:World) (ws:List (List UInt8)) (e:Ending) (w':World):Prop:=∃ v,e=.returned v/\w'.ownsRow w.heap.size 9 1 v ws.length (ws.map strV)/\Below w.heap.size w w'
theorem strV_snoc (ws:List (List UInt8)) (x:List UInt8):(ws++[x]).map strV=ws.map strV++[strV x]:=by simp
set_option maxRecDepth 100000 in
theorem words6_any (s:List UInt8) (w:World) (hl:s.length<=1000):Calls Tryz.prog 65 #[.string ⟨s.toArray⟩] w (WordsP w (wordsR s)):=by
 generalize hres:wordsR s=res
 have HRES:=LH hres
 clear hres
 go_enter Tryz.func65, Tryz.ntmps65
 go_wp2_with fail
 go_loopw [3,4,5] (fun v c i wr=>∃ (k:Nat) (acc:List (List UInt8)) (cur:List UInt8),k<=s.length/\i=.int .i64 k/\c=.string ⟨cur.toArray⟩/\wr.ownsRow w.heap.size 9 1 v acc.length (acc.map strV)/\acc.length<=k/\cur.length<=k/\wordsF (s.drop k) cur acc=res/\Below w.heap.size w wr) (fun _ _ i _=>s.length - (intOf i).toNat)
 case atStart=>exact ⟨0,[],[],Nat.zero_le _,rfl,rfl,World.ownsRow_nil _ _ _ _,Nat.le_refl _,Nat.le_refl _,HRES.out,Below.refl _ _⟩
 case round=>
  obtain ⟨k,acc,cur,hk,rfl,rfl,hown,hal,hcl,hw,hbw⟩:=hrel
  obtain ⟨vA,vc,rfl,hvc,hvm,_⟩:=own_slice hown (by omega)
  have OW:=LH hown
  have BW:=LH hbw
  have HW:=LH hw
  have hsz:=hbw.size
  clear hown hbw hw hvm
  by_cases hlt:k<s.length
  ·have HD:Hid (s.drop k=s[k] :: s.drop (k+1)):=LH (List.drop_eq_getElem_cons hlt)
   have HT:Hid ((s.take (k+1)).drop k = [s[k]]):=LH (by rw [List.drop_take,show k+1 - k=1 by omega,List.drop_eq_getElem_cons hlt];rfl)
   by_cases hx:s[k]=32
   ·have HN:Hid (wordsF (s.drop (k+1)) [] (acc++[cur])=res):=LH (by have h:=HW.out;rw [HD.out,wordsF,if_pos hx] at h;exact h)
    clear HD HT HW
    go_wp2_with (at_builtin;refine wpList_append_at wr wr.heap.size rfl rfl _ _ 55 rfl w.heap.size 9 _ 1 16 Tryz.underlying55 info_str rfl (by decide) OW.out rfl [strV cur] 9 rfl rfl (one_str _) (by omega) (by omega) hsz ?_;intro v5 w5 hown5 hb5)
    go_wp2_with fail
    go_roundw
    case rel=>exact ⟨k+1,acc++[cur],[],by omega,by go_num,rfl,by rw [strV_snoc,List.length_append];exact hown5,by simp;omega,by simp,HN.out,BW.out.trans hb5⟩
    case measure=>simp [intOf];omega
   ·have HN:Hid (wordsF (s.drop (k+1)) (cur++[s[k]]) acc=res):=LH (by have h:=HW.out;rw [HD.out,wordsF,if_neg hx] at h;exact h)
    have e1:(((s[k].toNat:Nat):Int) == 32)=false:=by
     rw [beq_eq_false_iff_ne]
     intro h
     exact hx (UInt8.toNat_inj.1 (by simpa using (by omega:s[k].toNat=32)))
    have hT2:=HT.out
    have e2:(k:Int)+1<=(s.length:Int):=by omega
    have e3:k+1<=s.length:=by omega
    clear HD HT HW hx
    go_wp2_with fail
    go_roundw
    case rel=>exact ⟨k+1,acc,cur++[s[k]],by omega,by go_num,by first | rfl | (rw [hT2]) | simp [hT2],OW.out,by omega,by simp;omega,HN.out,BW.out⟩
    case measure=>simp [intOf];omega
  ·obtain rfl:k=s.length:=by omega
   rw [List.drop_length] at HW
   by_cases hc:cur = []
   ·subst hc
    have HN:Hid (acc=res):=LH (by have h:=HW.out;rw [wordsF,if_pos rfl] at h;exact h)
    clear HW
    go_wp2_with fail
    go_ret
    obtain rfl:=HN.out
    exact ⟨_,rfl,OW.out,BW.out⟩
   ·have HN:Hid (acc++[cur]=res):=LH (by have h:=HW.out;rw [wordsF,if_neg hc] at h;exact h)
    have hc1:=str_ne hc
    clear HW hc
    go_wp2_with (at_builtin;refine wpList_append_at wr wr.heap.size rfl rfl _ _ 55 rfl w.heap.size 9 _ 1 16 Tryz.underlying55 info_str rfl (by decide) OW.out rfl [strV cur] 9 rfl rfl (one_str _) (by omega) (by omega) hsz ?_;intro v5 w5 hown5 hb5)
    go_wp2_with fail
    go_ret
    obtain rfl:=HN.out
    exact ⟨_,rfl,by rw [strV_snoc,List.length_append];exact hown5,BW.out.trans hb5⟩
theorem wordsF_len:∀ (s cur:List UInt8) (acc:List (List UInt8)),(wordsF s cur acc).length<=acc.length+s.length+1
 | [],cur,acc=>by unfold wordsF;split <;> simp
 | c :: r,cur,acc=>by
  unfold wordsF
  split
  ·have:=wordsF_len r [] (acc++[cur])
   simp at this ⊢
   omega
  ·have:=wordsF_len r (cur++[c]) acc
   simp at this ⊢
   omega
theorem rd_strR {w:World} {B c:Nat} {A:Option Addr} {ws:List (List UInt8)} (h:Rd w B (.slice A ws.length c) ws.length (ws.map strV)) (h0:0<ws.length) :
  ∃ g o,A=some ⟨g,o,none⟩/\g<B/\∀ k (hk:k<ws.length),w.cell? ⟨g,o+k,none⟩=some (.string ⟨ws[k].toArray⟩):=by
 obtain ⟨A',c',h1,h2,h3⟩:=h
 injection h1 with h1 _ _
 subst h1
 obtain ⟨g,o,h4,h5,h6⟩:=h3 h0
 exact ⟨g,o,h4,h5,fun k hk=>h6 k _ (by simp [strV,hk])⟩
theorem rin_any (L x:List UInt8) (hL:L.length<=1000) (w:World):Calls Tryz.prog 41 #[.string ⟨L.toArray⟩,.string ⟨x.toArray⟩] w fun e w'=>e=.returned (.bool (decide (x∈wordsR L)))/\Below w.heap.size w w':=by
 have HW:=LH (words6_any L w hL)
 have hlen:(wordsR L).length<=2000:=by have:=wordsF_len L [] [];unfold wordsR;simp at this ⊢;omega
 have HY:Hid (x∈wordsR L->decide (x∈wordsR L)=true):=LH (fun h=>decide_eq_true h)
 have HN:Hid (x∉wordsR L->decide (x∈wordsR L)=false):=LH (fun h=>decide_eq_false h)
 generalize decide (x∈wordsR L)=res at *
 generalize wordsR L=ws at *
 clear hL
 go_enter Tryz.func41, Tryz.ntmps41
 go_wp2_with fail
 refine HW.out.mono ?_
 rintro e w1 ⟨v,rfl,hown,hb1⟩
 have RD:=LH (Rd.of_own hown)
 have B1:=LH hb1
 obtain ⟨vA,vc,rfl,hvc,hvm,_⟩:=own_slice hown (by omega)
 clear hown hb1 hvm HW
 go_wp2_with fail
 go_loop [6] (fun i=>∃ k:Nat,k<=ws.length/\i=.int .i64 k/\∀ j (hj:j<ws.length),j<k->x≠ws[j]) (fun i=>ws.length - (intOf i).toNat)
 case atStart=>exact ⟨0,Nat.zero_le _,rfl,fun j _ h=>absurd h (by omega)⟩
 case round=>
  obtain ⟨k,hk,rfl,hno⟩:=hrel
  have HNO:=LH hno
  clear hno
  by_cases hlt:k<ws.length
  ·obtain ⟨g,o,rfl,hg,hck⟩:=rd_strR RD.out (by omega)
   have ck:=hck k hlt
   have HK:Hid (ws[k]∈ws):=LH (List.getElem_mem hlt)
   have e1:(k:Int)<(ws.length:Int):=by omega
   clear hck
   by_cases he:x=ws[k]
   ·have hr:=HY.out (he ▸ HK.out)
    subst hr
    rw [← he] at ck
    clear he HK
    go_wp2_with fail
    go_ret
    exact ⟨rfl,B1.out⟩
   ·have HS:Hid (∀ j (hj:j<ws.length),j<k+1->x≠ws[j]):=LH (fun j hj h=>by
     by_cases hjk:j=k
     ·subst hjk;exact he
     ·exact HNO.out j hj (by omega))
    have hb:(ws[k] == x)=false:=by simpa using fun h=>he h.symm
    have hlt2:=LH (show k+1<=ws.length from hlt)
    generalize ws[k]=y at *
    clear he HK
    go_wp2_with fail
    go_round
    case rel=>exact ⟨k+1,hlt2.out,by go_num,HS.out⟩
    case measure=>simp [intOf];omega
  ·have hr:res=false:=HN.out (fun h=>by obtain ⟨j,hj,he⟩:=List.getElem_of_mem h;exact HNO.out j hj (by omega) he.symm)
   subst hr
   go_wp2_with fail
   go_ret
   exact ⟨rfl,B1.out⟩
def intelS:List UInt8:=[65,32,66,32,67,32,68,32,69,32,72,32,76,32,77,32,83,80,32,80,83,87]
def zilogS:List UInt8:=[65,32,66,32,67,32,68,32,69,32,72,32,76,32,65,70,32,66,67,32,68,69,32,72,76,32,83,80,32,78,90,32,90,32,78,67,32,80,79,32,80,69,32,80,32,77]
def eightS:List UInt8:=[65,76,32,67,76,32,68,76,32,66,76,32,65,72,32,67,72,32,68,72,32,66,72,32,65,88,32,67,88,32,68,88,32,66,88,32,83,80,32,66,80,32,83,73,32,68,73]
theorem resS_ok:(intelW=wordsR opS++wordsR intelS/\zilogW=wordsR opS++wordsR zilogS/\eightW=wordsR opS++wordsR eightS):=by decide +kernel
theorem resS_len:opS.length<=1000/\intelS.length<=1000/\zilogS.length<=1000/\eightS.length<=1000:=by decide +kernel
theorem mem_two (x:List UInt8) (a b:List (List UInt8)):decide (x∈a++b)=(decide (x∈b) || decide (x∈a)):=by
 rw [Bool.eq_iff_iff]
 simp [or_comm]
theorem resS_0 (x:List UInt8):resB 0 x=(decide (x∈wordsR intelS) || decide (x∈wordsR opS)):=by rw [← mem_two,← resS_ok.1];simp [resB]
theorem resS_1 (x:List UInt8):resB 1 x=(decide (x∈wordsR zilogS) || decide (x∈wordsR opS)):=by rw [← mem_two,← resS_ok.2.1];simp [resB]
theorem resS_2 (x:List UInt8):resB 2 x=(decide (x∈wordsR eightS) || decide (x∈wordsR opS)):=by rw [← mem_two,← resS_ok.2.2];simp [resB]
theorem rres_any (d:Int) (x:List UInt8) (w:World):Calls Tryz.prog 13 #[.int .i64 d,.string ⟨x.toArray⟩] w fun e w'=>e=.returned (.bool (resB d x))/\Below w.heap.size w w':=by
 have H1:=LH (fun W=>rin_any intelS x resS_len.2.1 W)
 have H2:=LH (fun W=>rin_any zilogS x resS_len.2.2.1 W)
 have H3:=LH (fun W=>rin_any eightS x resS_len.2.2.2 W)
 have H0:=LH (fun W=>rin_any opS x resS_len.1 W)
 have q0:=resS_0 x
 have q1:=resS_1 x
 have q2:=resS_2 x
 generalize decide (x∈wordsR intelS)=b1 at *
 generalize decide (x∈wordsR zilogS)=b2 at *
 generalize decide (x∈wordsR eightS)=b3 at *
 generalize decide (x∈wordsR opS)=b0 at *
 by_cases h0:d=0
 ·subst h0
  rw [q0]
  clear q0 q1 q2 H2 H3
  cases b1
  ·go_enter Tryz.func13, Tryz.ntmps13
   go_wp2_with fail
   refine (H1.out _).mono ?_
   rintro e w1 ⟨rfl,hb1⟩
   go_wp2_with fail
   refine (H0.out _).mono ?_
   rintro e w2 ⟨rfl,hb2⟩
   go_wp2_with fail
   go_ret
   exact ⟨rfl,bthen hb1 hb2⟩
  ·go_enter Tryz.func13, Tryz.ntmps13
   go_wp2_with fail
   refine (H1.out _).mono ?_
   rintro e w1 ⟨rfl,hb1⟩
   go_wp2_with fail
   go_ret
   exact ⟨rfl,hb1⟩
 by_cases h1:d=1
 ·subst h1
  rw [q1]
  clear q0 q1 q2 H1 H3 h0
  cases b2
  ·go_enter Tryz.func13, Tryz.ntmps13
   go_wp2_with fail
   refine (H2.out _).mono ?_
   rintro e w1 ⟨rfl,hb1⟩
   go_wp2_with fail
   refine (H0.out _).mono ?_
   rintro e w2 ⟨rfl,hb2⟩
   go_wp2_with fail
   go_ret
   exact ⟨rfl,bthen hb1 hb2⟩
  ·go_enter Tryz.func13, Tryz.ntmps13
   go_wp2_with fail
   refine (H2.out _).mono ?_
   rintro e w1 ⟨rfl,hb1⟩
   go_wp2_with fail
   go_ret
   exact ⟨rfl,hb1⟩
 by_cases h2:d=2
 ·subst h2
  rw [q2]
  clear q0 q1 q2 H1 H2 h0 h1
  cases b3
  ·go_enter Tryz.func13, Tryz.ntmps13
   go_wp2_with fail
   refine (H3.out _).mono ?_
   rintro e w1 ⟨rfl,hb1⟩
   go_wp2_with fail
   refine (H0.out _).mono ?_
   rintro e w2 ⟨rfl,hb2⟩
   go_wp2_with fail
   go_ret
   exact ⟨rfl,bthen hb1 hb2⟩
  ·go_enter Tryz.func13, Tryz.ntmps13
   go_wp2_with fail
   refine (H3.out _).mono ?_
   rintro e w1 ⟨rfl,hb1⟩
   go_wp2_with fail
   go_ret
   exact ⟨rfl,hb1⟩
 have hq:resB d x=false:=by simp [resB,h0,h1,h2]
 rw [hq]
 have e0:(d == 0)=false:=by simpa using h0
 have e1:(d == 1)=false:=by simpa using h1
 have e2:(d == 2)=false:=by simpa using h2
 clear q0 q1 q2 H1 H2 H3 H0 h0 h1 h2 hq
 go_enter Tryz.func13, Tryz.ntmps13
 go_wp2_with fail
 go_ret
 exact ⟨rfl,Below.refl _ _⟩
end Go.Proofs.YtfdcigbompkeoaaGreatDoor
