/- Wg. -/
import Derived.Test.YtagplldaooipmaaGreatDoorWa
import Derived.Test.YtagplldaooipmaaGreatDoorKm
import Derived.Test.YtagplldaooipmaaGreatDoorWf
import Derived.Test.YtagplldaooipmaaGreatDoorKd
import Derived.Test.YtagplldaooipmaaGreatDoorKo
import Derived.Test.YtagplldaooipmaaGreatDoorKn
namespace Go.Proofs.YtagplldaooipmaaGreatDoor
open Go.RowKit
theorem wordsF_len:∀ (s cur:List UInt8) (acc:List (List UInt8)),(wordsF s cur acc).length ≤ acc.length + s.length + 1
 | [],cur,acc=>by unfold wordsF;split <;> simp
 | c :: r,cur,acc=>by
  unfold wordsF
  split
  ·have:=wordsF_len r [] (acc ++ [cur])
   simp at this ⊢
   omega
  ·have:=wordsF_len r (cur ++ [c]) acc
   simp at this ⊢
   omega
theorem rd_strR {w:World} {B c:Nat} {A:Option Addr} {ws:List (List UInt8)} (h:Rd w B (.slice A ws.length c) ws.length (ws.map strV)) (h0:0 < ws.length) :
  ∃ g o,A=some ⟨g,o,none⟩∧g < B∧∀ k (hk:k < ws.length),w.cell? ⟨g,o + k,none⟩=some (.string ⟨ws[k].toArray⟩):=by
 obtain ⟨A',c',h1,h2,h3⟩:=h
 injection h1 with h1 _ _
 subst h1
 obtain ⟨g,o,h4,h5,h6⟩:=h3 h0
 exact ⟨g,o,h4,h5,fun k hk=>h6 k _ (by simp [strV,hk])⟩
set_option maxHeartbeats 1000000 in
theorem rin_any (L x:List UInt8) (hL:L.length ≤ 1000) (w:World):Calls Tryz.prog 172 #[.string ⟨L.toArray⟩,.string ⟨x.toArray⟩] w fun e w'=>e=.returned (.bool (decide (x ∈ wordsR L)))∧Below w.heap.size w w':=by
 have HW:=Lib.hid (words6_any L w hL)
 have hlen:(wordsR L).length ≤ 2000:=by have:=wordsF_len L [] [];unfold wordsR;simp at this ⊢;omega
 have HY:Hid (x ∈ wordsR L → decide (x ∈ wordsR L)=true):=Lib.hid (fun h=>decide_eq_true h)
 have HN:Hid (x ∉ wordsR L → decide (x ∈ wordsR L)=false):=Lib.hid (fun h=>decide_eq_false h)
 generalize decide (x ∈ wordsR L)=res at *
 generalize wordsR L=ws at *
 clear hL
 go_enter Tryz.func172, Tryz.ntmps172
 go_wp2_with fail
 refine HW.out.mono ?_
 rintro e w1 ⟨v,rfl,hown,hb1⟩
 have RD:=Lib.hid (Rd.of_own hown)
 have B1:=Lib.hid hb1
 obtain ⟨vA,vc,rfl,hvc,hvm,_⟩:=own_slice hown (by omega)
 clear hown hb1 hvm HW
 go_wp2_with fail
 go_loop [6] (fun i=>∃ k:Nat,k ≤ ws.length∧i=.int .i64 k∧∀ j (hj:j < ws.length),j < k → x ≠ ws[j]) (fun i=>ws.length - (intOf i).toNat)
 case atStart=>exact ⟨0,Nat.zero_le _,rfl,fun j _ h=>absurd h (by omega)⟩
 case round=>
  obtain ⟨k,hk,rfl,hno⟩:=hrel
  have HNO:=Lib.hid hno
  clear hno
  by_cases hlt:k < ws.length
  ·obtain ⟨g,o,rfl,hg,hck⟩:=rd_strR RD.out (by omega)
   have ck:=hck k hlt
   have HK:Hid (ws[k] ∈ ws):=Lib.hid (List.getElem_mem hlt)
   have e1:(k:Int) < (ws.length:Int):=by omega
   clear hck
   by_cases he:x=ws[k]
   ·have hr:=HY.out (he ▸ HK.out)
    subst hr
    rw [← he] at ck
    clear he HK
    go_wp2_with fail
    go_ret
    exact ⟨rfl,B1.out⟩
   ·have HS:Hid (∀ j (hj:j < ws.length),j < k + 1 → x ≠ ws[j]):=Lib.hid (fun j hj h=>by
     by_cases hjk:j=k
     ·subst hjk;exact he
     ·exact HNO.out j hj (by omega))
    have hb:(ws[k] == x)=false:=by simpa using fun h=>he h.symm
    have hlt2:=Lib.hid (show k + 1 ≤ ws.length from hlt)
    generalize ws[k]=y at *
    clear he HK
    go_wp2_with fail
    go_round
    case rel=>exact ⟨k + 1,hlt2.out,by go_num,HS.out⟩
    case measure=>simp [intOf];omega
  ·have hr:res=false:=HN.out (fun h=>by obtain ⟨j,hj,he⟩:=List.getElem_of_mem h;exact HNO.out j hj (by omega) he.symm)
   subst hr
   go_wp2_with fail
   go_ret
   exact ⟨rfl,B1.out⟩
def intelS:List UInt8:=[65,32,66,32,67,32,68,32,69,32,72,32,76,32,77,32,83,80,32,80,83,87]
def zilogS:List UInt8:=[65,32,66,32,67,32,68,32,69,32,72,32,76,32,65,70,32,66,67,32,68,69,32,72,76,32,83,80,32,78,90,32,90,32,78,67,32,80,79,32,80,69,32,80,32,77]
def eightS:List UInt8:=[65,76,32,67,76,32,68,76,32,66,76,32,65,72,32,67,72,32,68,72,32,66,72,32,65,88,32,67,88,32,68,88,32,66,88,32,83,80,32,66,80,32,83,73,32,68,73]
theorem resS_ok:(intelW=wordsR opS ++ wordsR intelS∧zilogW=wordsR opS ++ wordsR zilogS∧eightW=wordsR opS ++ wordsR eightS):=by decide +kernel
theorem resS_len:opS.length ≤ 1000∧intelS.length ≤ 1000∧zilogS.length ≤ 1000∧eightS.length ≤ 1000:=by decide +kernel
theorem mem_two (x:List UInt8) (a b:List (List UInt8)):decide (x ∈ a ++ b)=(decide (x ∈ b) || decide (x ∈ a)):=by
 rw [Bool.eq_iff_iff]
 simp [or_comm]
theorem resS_0 (x:List UInt8):resB 0 x=(decide (x ∈ wordsR intelS) || decide (x ∈ wordsR opS)):=by rw [← mem_two,← resS_ok.1];simp [resB]
theorem resS_1 (x:List UInt8):resB 1 x=(decide (x ∈ wordsR zilogS) || decide (x ∈ wordsR opS)):=by rw [← mem_two,← resS_ok.2.1];simp [resB]
theorem resS_2 (x:List UInt8):resB 2 x=(decide (x ∈ wordsR eightS) || decide (x ∈ wordsR opS)):=by rw [← mem_two,← resS_ok.2.2];simp [resB]
set_option maxHeartbeats 1000000 in
theorem rres_any (d:Int) (x:List UInt8) (w:World):Calls Tryz.prog 128 #[.int .i64 d,.string ⟨x.toArray⟩] w fun e w'=>e=.returned (.bool (resB d x))∧Below w.heap.size w w':=by
 have H1:=Lib.hid (fun W=>rin_any intelS x resS_len.2.1 W)
 have H2:=Lib.hid (fun W=>rin_any zilogS x resS_len.2.2.1 W)
 have H3:=Lib.hid (fun W=>rin_any eightS x resS_len.2.2.2 W)
 have H0:=Lib.hid (fun W=>rin_any opS x resS_len.1 W)
 have q0:=resS_0 x
 have q1:=resS_1 x
 have q2:=resS_2 x
 generalize decide (x ∈ wordsR intelS)=b1 at *
 generalize decide (x ∈ wordsR zilogS)=b2 at *
 generalize decide (x ∈ wordsR eightS)=b3 at *
 generalize decide (x ∈ wordsR opS)=b0 at *
 by_cases h0:d=0
 ·subst h0
  rw [q0]
  clear q0 q1 q2 H2 H3
  cases b1
  ·go_enter Tryz.func128, Tryz.ntmps128
   go_wp2_with fail
   refine (H1.out _).mono ?_
   rintro e w1 ⟨rfl,hb1⟩
   go_wp2_with fail
   refine (H0.out _).mono ?_
   rintro e w2 ⟨rfl,hb2⟩
   go_wp2_with fail
   go_ret
   exact ⟨rfl,bthen hb1 hb2⟩
  ·go_enter Tryz.func128, Tryz.ntmps128
   go_wp2_with fail
   refine (H1.out _).mono ?_
   rintro e w1 ⟨rfl,hb1⟩
   go_wp2_with fail
   go_ret
   exact ⟨rfl,hb1⟩
 by_cases h1:d=1
 ·subst h1
  rw [q1]
  clear q0 q1 q2 H1 H3 h0
  cases b2
  ·go_enter Tryz.func128, Tryz.ntmps128
   go_wp2_with fail
   refine (H2.out _).mono ?_
   rintro e w1 ⟨rfl,hb1⟩
   go_wp2_with fail
   refine (H0.out _).mono ?_
   rintro e w2 ⟨rfl,hb2⟩
   go_wp2_with fail
   go_ret
   exact ⟨rfl,bthen hb1 hb2⟩
  ·go_enter Tryz.func128, Tryz.ntmps128
   go_wp2_with fail
   refine (H2.out _).mono ?_
   rintro e w1 ⟨rfl,hb1⟩
   go_wp2_with fail
   go_ret
   exact ⟨rfl,hb1⟩
 by_cases h2:d=2
 ·subst h2
  rw [q2]
  clear q0 q1 q2 H1 H2 h0 h1
  cases b3
  ·go_enter Tryz.func128, Tryz.ntmps128
   go_wp2_with fail
   refine (H3.out _).mono ?_
   rintro e w1 ⟨rfl,hb1⟩
   go_wp2_with fail
   refine (H0.out _).mono ?_
   rintro e w2 ⟨rfl,hb2⟩
   go_wp2_with fail
   go_ret
   exact ⟨rfl,bthen hb1 hb2⟩
  ·go_enter Tryz.func128, Tryz.ntmps128
   go_wp2_with fail
   refine (H3.out _).mono ?_
   rintro e w1 ⟨rfl,hb1⟩
   go_wp2_with fail
   go_ret
   exact ⟨rfl,hb1⟩
 have hq:resB d x=false:=by simp [resB,h0,h1,h2]
 rw [hq]
 have e0:(d == 0)=false:=by simpa using h0
 have e1:(d == 1)=false:=by simpa using h1
 have e2:(d == 2)=false:=by simpa using h2
 clear q0 q1 q2 H1 H2 H3 H0 h0 h1 h2 hq
 go_enter Tryz.func128, Tryz.ntmps128
 go_wp2_with fail
 go_ret
 exact ⟨rfl,Below.refl _ _⟩
end Go.Proofs.YtagplldaooipmaaGreatDoor
/- The reference's layer 12: dialect, Plain, word. -/
namespace Go.Proofs.YtagplldaooipmaaGreatDoor
open Go.RowKit
theorem rdialect_any (d:Int) (w:World):Calls Tryz.prog 86 #[.int .i64 d] w fun e w'=>e=.returned (.bool (knownB d))∧w=w':=by
 by_cases h0:d=0
 ·subst h0
  go_enter Tryz.func86, Tryz.ntmps86
  go_wp2_with fail
  go_ret
  exact ⟨rfl,rfl⟩
 by_cases h1:d=1
 ·subst h1
  go_enter Tryz.func86, Tryz.ntmps86
  go_wp2_with fail
  go_ret
  exact ⟨rfl,rfl⟩
 by_cases h2:d=2
 ·subst h2
  go_enter Tryz.func86, Tryz.ntmps86
  go_wp2_with fail
  go_ret
  exact ⟨rfl,rfl⟩
 have hq:knownB d=false:=by
  unfold knownB
  rw [Bool.and_eq_false_iff,decide_eq_false_iff_not,decide_eq_false_iff_not]
  omega
 rw [hq]
 have e0:(d == 0)=false:=by simpa using h0
 have e1:(d == 1)=false:=by simpa using h1
 have e2:(d == 2)=false:=by simpa using h2
 clear h0 h1 h2 hq
 go_enter Tryz.func86, Tryz.ntmps86
 go_wp2_with fail
 go_ret
 exact ⟨rfl,rfl⟩
set_option maxHeartbeats 1000000 in
theorem rplain_any (d:Int) (x:List UInt8) (w:World) (hl:x.length ≤ 1000000):Calls Tryz.prog 87 #[.int .i64 d,.string ⟨x.toArray⟩] w fun e w'=>e=.returned (.bool (plainB d x))∧Below w.heap.size w w':=by
 have HN:=Lib.hid (fun W=>refName_any x W hl)
 have HU:=Lib.hid (fun W=>refUpper_any x W hl)
 have HR:=Lib.hid (fun W=>rres_any d x W)
 unfold plainB greatB
 generalize nameB x=b0 at *
 generalize resB d x=b2 at *
 cases b0
 ·simp only [Bool.false_and]
  go_enter Tryz.func87, Tryz.ntmps87
  go_wp2_with fail
  refine (HN.out _).mono ?_
  rintro e w1 ⟨rfl,rfl⟩
  go_wp2_with fail
  go_ret
  exact ⟨rfl,Below.refl _ _⟩
 ·by_cases hu:upper x=x
  ·have u1:(upper x == x)=true:=by simpa using hu
   rw [u1]
   simp only [Bool.true_and]
   rw [hu] at HU
   clear hu u1
   cases b2
   ·by_cases h1:x=sEQU
    ·subst h1
     go_enter Tryz.func87, Tryz.ntmps87
     go_wp2_with fail
     refine (HN.out _).mono ?_
     rintro e w1 ⟨rfl,rfl⟩
     go_wp2_with fail
     refine (HU.out _).mono ?_
     rintro e w2 ⟨rfl,hb2⟩
     go_wp2_with fail
     refine (HR.out _).mono ?_
     rintro e w3 ⟨rfl,hb3⟩
     go_wp2_with fail
     go_ret
     exact ⟨rfl,bthen hb2 hb3⟩
    by_cases h2:x=sSET
    ·subst h2
     go_enter Tryz.func87, Tryz.ntmps87
     go_wp2_with fail
     refine (HN.out _).mono ?_
     rintro e w1 ⟨rfl,rfl⟩
     go_wp2_with fail
     refine (HU.out _).mono ?_
     rintro e w2 ⟨rfl,hb2⟩
     go_wp2_with fail
     refine (HR.out _).mono ?_
     rintro e w3 ⟨rfl,hb3⟩
     go_wp2_with fail
     go_ret
     exact ⟨rfl,bthen hb2 hb3⟩
    have hs:setsB x=false:=by unfold setsB;simp [h1,h2]
    rw [hs]
    have n1:(x == [69,81,85])=false:=str_ne h1
    have n2:(x == [83,69,84])=false:=str_ne h2
    clear h1 h2 hs
    go_enter Tryz.func87, Tryz.ntmps87
    go_wp2_with fail
    refine (HN.out _).mono ?_
    rintro e w1 ⟨rfl,rfl⟩
    go_wp2_with fail
    refine (HU.out _).mono ?_
    rintro e w2 ⟨rfl,hb2⟩
    go_wp2_with fail
    refine (HR.out _).mono ?_
    rintro e w3 ⟨rfl,hb3⟩
    go_wp2_with fail
    go_ret
    exact ⟨rfl,bthen hb2 hb3⟩
   ·go_enter Tryz.func87, Tryz.ntmps87
    go_wp2_with fail
    refine (HN.out _).mono ?_
    rintro e w1 ⟨rfl,rfl⟩
    go_wp2_with fail
    refine (HU.out _).mono ?_
    rintro e w2 ⟨rfl,hb2⟩
    go_wp2_with fail
    refine (HR.out _).mono ?_
    rintro e w3 ⟨rfl,hb3⟩
    go_wp2_with fail
    go_ret
    exact ⟨rfl,bthen hb2 hb3⟩
  ·have u1:(upper x == x)=false:=by simpa using hu
   rw [u1]
   simp only [Bool.and_false,Bool.false_and]
   generalize upper x=y at *
   clear hu
   go_enter Tryz.func87, Tryz.ntmps87
   go_wp2_with fail
   refine (HN.out _).mono ?_
   rintro e w1 ⟨rfl,rfl⟩
   go_wp2_with fail
   refine (HU.out _).mono ?_
   rintro e w2 ⟨rfl,hb2⟩
   go_wp2_with fail
   go_ret
   exact ⟨rfl,hb2⟩
theorem wordE_op (s:List UInt8):wordE s=decide (s ∈ opW):=by
 unfold wordE opW
 congr 1
 apply propext
 simp only [List.mem_cons,List.not_mem_nil,or_false]
theorem memB_cases (d:Int) (x:List UInt8) (h:memB d x=true):(d=1∧(x = [40,66,67,41] ∨ x = [40,68,69,41] ∨ x = [40,72,76,41] ∨ x = [40,83,80,41])) ∨ (d=2∧(x = [91,66,88,93] ∨ x = [91,83,73,93])):=by
 simpa [memB,memZ,mem8] using h
theorem memB_not (d:Int) (x:List UInt8) (h:memB d x=false):(d=1 → x ≠ [40,66,67,41]∧x ≠ [40,68,69,41]∧x ≠ [40,72,76,41]∧x ≠ [40,83,80,41])∧(d=2 → x ≠ [91,66,88,93]∧x ≠ [91,83,73,93]):=by
 simpa [memB,memZ,mem8] using h
set_option maxHeartbeats 2000000 in
theorem rword12_any (d:Int) (x:List UInt8) (w:World):Calls Tryz.prog 130 #[.int .i64 d,.string ⟨x.toArray⟩] w fun e w'=>e=.returned (.bool (wordB d x))∧Below w.heap.size w w':=by
  unfold wordB
  rw [← wordE_op]
  have HR:=Lib.hid (fun W=>rres_any d x W)
  have HW:=Lib.hid (fun W=>refWord_any x W)
  cases hm:memB d x
  · obtain ⟨m1,m2⟩:=memB_not d x hm
    clear hm
    simp only [Bool.false_or]
    generalize resB d x=b1 at *
    generalize wordE x=b2 at *
    by_cases h1:d=1
    · obtain ⟨n1,n2,n3,n4⟩:=m1 h1
      have n1:=str_ne n1
      have n2:=str_ne n2
      have n3:=str_ne n3
      have n4:=str_ne n4
      clear m1 m2
      subst h1
      cases b1
      all_goals (
        go_enter Tryz.func130, Tryz.ntmps130
        go_wp2_with fail
        refine (HR.out _).mono ?_
        rintro e w1 ⟨rfl,hb1⟩
        go_wp2_with fail
        first
        | (refine (HW.out _).mono ?_
           rintro e w2 ⟨rfl,rfl⟩
           go_wp2_with fail
           go_ret
           exact ⟨by cases b2 <;> rfl,hb1⟩)
        | (go_ret
           exact ⟨rfl,hb1⟩))
    by_cases h2:d=2
    · obtain ⟨n1,n2⟩:=m2 h2
      have n1:=str_ne n1
      have n2:=str_ne n2
      clear m1 m2 h1
      subst h2
      cases b1
      all_goals (
        go_enter Tryz.func130, Tryz.ntmps130
        go_wp2_with fail
        refine (HR.out _).mono ?_
        rintro e w1 ⟨rfl,hb1⟩
        go_wp2_with fail
        first
        | (refine (HW.out _).mono ?_
           rintro e w2 ⟨rfl,rfl⟩
           go_wp2_with fail
           go_ret
           exact ⟨by cases b2 <;> rfl,hb1⟩)
        | (go_ret
           exact ⟨rfl,hb1⟩))
    have e1:(d == 1)=false:=by simpa using h1
    have e2:(d == 2)=false:=by simpa using h2
    clear m1 m2 h1 h2
    cases b1
    all_goals (
      go_enter Tryz.func130, Tryz.ntmps130
      go_wp2_with fail
      refine (HR.out _).mono ?_
      rintro e w1 ⟨rfl,hb1⟩
      go_wp2_with fail
      first
      | (refine (HW.out _).mono ?_
         rintro e w2 ⟨rfl,rfl⟩
         go_wp2_with fail
         go_ret
         exact ⟨by cases b2 <;> rfl,hb1⟩)
      | (go_ret
         exact ⟨rfl,hb1⟩))
  · simp only [Bool.true_or]
    rcases memB_cases d x hm with ⟨rfl,rfl | rfl | rfl | rfl⟩ | ⟨rfl,rfl | rfl⟩
    all_goals (
      clear hm HR HW
      go_enter Tryz.func130, Tryz.ntmps130
      go_wp2_with fail
      go_ret
      exact ⟨rfl,Below.refl _ _⟩)
end Go.Proofs.YtagplldaooipmaaGreatDoor
/- The reference's layer 5: Names. -/
namespace Go.Proofs.YtagplldaooipmaaGreatDoor
open Go.RowKit
def RNamesH (x:Ex):Prop:=∀ (d:Nat) (v:Value) (w:World),d ≤ 24 → rightE x d=true → SubAt w (· < w.heap.size) v x.sub →
 Calls Tryz.prog 133 #[.agg #[.string ⟨x.op.toArray⟩,.int .u16 x.n,.string ⟨x.name.toArray⟩,v]] w fun e w'=>∃ v',e=.returned v'∧Rd w' w'.heap.size v' (namesE x).length ((namesE x).map strV)∧Below w.heap.size w w'
set_option maxHeartbeats 2000000 in
theorem rnames_leaf (m:List UInt8) (n:Nat) (v:Value) (w:World) (hs:SubAt w (· < w.heap.size) v []) :
  Calls Tryz.prog 133 #[.agg #[.string ⟨#[110]⟩,.int .u16 n,.string ⟨m.toArray⟩,v]] w fun e w'=>∃ v',e=.returned v'∧Rd w' w'.heap.size v' 1 [.string ⟨m.toArray⟩]∧Below w.heap.size w w':=by
 obtain ⟨A,c,rfl,hc,hm⟩:=hs.form
 have hb:=(Below.refl w.heap.size w).alloc (Nat.le_refl _) (.cells #[.string ⟨#[110]⟩,.int .u16 n,.string ⟨m.toArray⟩,.slice A 0 c] 39)
 have hn:=heap_alloc_new w (.cells #[.string ⟨#[110]⟩,.int .u16 n,.string ⟨m.toArray⟩,.slice A 0 c] 39)
 have HN:=Lib.hid hn
 clear hs hn
 go_enter Tryz.func133, Tryz.ntmps133
 go_wp2_with (at_builtin;refine wpList_append_at (w.alloc (.cells #[.string ⟨#[110]⟩,.int .u16 n,.string ⟨m.toArray⟩,.slice A 0 c] 39)) (w.heap.size + 1) (by simp) rfl _ _ 81 rfl (w.heap.size + 1) 9 _ 1 16 Tryz.underlying81 info_str rfl (by decide) (World.ownsRow_nil _ _ _ _) rfl [.string ⟨m.toArray⟩] 9 rfl rfl (one_str _) (by omega) (by omega) (by simp) ?_)
 intro v' w2 hown3 hb3
 have hb4:=Lib.hid (hb.trans (hb3.mono (Nat.le_succ _)))
 have c3:w2.cell? ⟨w.heap.size,3,none⟩=some (.slice A 0 c):=(hb3.cell (p:=⟨w.heap.size,3,none⟩) (Nat.lt_succ_self _)).trans (cell_of_heap HN.out)
 have HO:=Lib.hid (Rd.of_own hown3)
 clear hown3 hb3 hb
 go_wp2_with fail
 go_loop [3,4] (fun o i=>o=v'∧i=.int .i64 0) (fun _ _=>0)
 case atStart=>exact ⟨rfl,rfl⟩
 case round=>
  obtain ⟨rfl,rfl⟩:=hrel
  go_wp2_with fail
  go_ret
  exact ⟨_,rfl,HO.out,hb4.out⟩
set_option maxHeartbeats 4000000 in
theorem rnames_node (o:List UInt8) (n:Nat) (m:List UInt8) (s:List Ex) (ho:(o == [110])=false) (d:Nat) (hd:d ≤ 24) (hr:∀ x ∈ s,rightE x d=true) (hlen:(namesL s).length ≤ 100000000) (ih:∀ x ∈ s,RNamesH x) (v:Value) (w:World) (hs:SubAt w (· < w.heap.size) v s) :
  Calls Tryz.prog 133 #[.agg #[.string ⟨o.toArray⟩,.int .u16 n,.string ⟨m.toArray⟩,v]] w fun e w'=>∃ v',e=.returned v'∧Rd w' w'.heap.size v' (namesL s).length ((namesL s).map strV)∧Below w.heap.size w w':=by
 obtain ⟨A,c,rfl,hc,hm⟩:=hs.form
 unfold maxLen at hm
 have HS:=Lib.hid hs
 have HI:=Lib.hid ih
 have HR:=Lib.hid hr
 clear hs ih hr
 go_enter Tryz.func133, Tryz.ntmps133
 go_wp2_with fail
 go_loopw [3,4] (fun v i wr=>∃ k:Nat,k ≤ s.length∧i=.int .i64 k∧wr.ownsRow (w.heap.size + 1) 9 1 v (namesL (s.take k)).length ((namesL (s.take k)).map strV)∧Below (w.heap.size + 1) (w.alloc (.cells #[.string ⟨o.toArray⟩,.int .u16 n,.string ⟨m.toArray⟩,.slice A s.length c] 39)) wr) (fun _ i _=>s.length - (intOf i).toNat)
 case atStart=>exact ⟨0,Nat.zero_le _,rfl,World.ownsRow_nil _ _ _ _,Below.refl _ _⟩
 case round=>
  obtain ⟨k,hk,rfl,hown,hB⟩:=hrel
  have hz:w.heap.size + 1 ≤ wr.heap.size:=by have:=hB.size;simpa using this
  have hb:Below w.heap.size w wr:=((Below.refl _ _).alloc (Nat.le_refl _) _).trans (hB.mono (by omega))
  have HB:=Lib.hid hB
  have hsz:=hb.size
  have e3:=box_at hB 3 _ rfl
  clear hB
  by_cases hlt:k < s.length
  ·obtain ⟨g,q,vk,rfl,hg,c0,c1,c2,c3,hsub,hn,_,_⟩:=HS.out.get k hlt
   obtain ⟨vA,vc,rfl,_,_⟩:=hsub.form
   have d0:=(hb.cell (p:=⟨g,q + k * 4,none⟩) hg).trans c0
   have d1:=(hb.cell (p:=⟨g,q + k * 4 + 1,none⟩) hg).trans c1
   have d2:=(hb.cell (p:=⟨g,q + k * 4 + 2,none⟩) hg).trans c2
   have d3:=(hb.cell (p:=⟨g,q + k * 4 + 3,none⟩) hg).trans c3
   have hgr:g < wr.heap.size:=Nat.lt_of_lt_of_le hg hsz
   have HSK:=Lib.hid ((hsub.bel hb).more (S':=(· < wr.heap.size)) (fun x hx=>Nat.lt_of_lt_of_le hx hsz))
   have HC:Hid (Calls Tryz.prog 133 #[.agg #[.string ⟨s[k].op.toArray⟩,.int .u16 s[k].n,.string ⟨s[k].name.toArray⟩,.slice vA s[k].sub.length vc]] wr fun e w'=>∃ v',e=.returned v'∧Rd w' w'.heap.size v' (namesE s[k]).length ((namesE s[k]).map strV)∧Below wr.heap.size wr w'):=Lib.hid (HI.out s[k] (List.getElem_mem hlt) d _ _ hd (HR.out _ (List.getElem_mem hlt)) HSK.out)
   have HT:Hid (namesL (s.take (k + 1))=namesL (s.take k) ++ namesE s[k]):=Lib.hid (by rw [List.take_succ_eq_append_getElem hlt,namesL_app];simp [namesL])
   have hl1:=Nat.le_trans (namesL_take s (k + 1)) hlen
   rw [HT.out,List.length_append] at hl1
   generalize s[k]=x at *
   clear c0 c1 c2 c3 hsub
   go_wp2_with fail
   refine HC.out.mono ?_
   rintro e0 w5 ⟨v5,rfl,hrd5,hb5⟩
   obtain ⟨A5,c5,rfl,hc5⟩:=hrd5.form
   have hown2:=hown.kept (only_of_below hb5 none) (by cases u3.ownBlock <;> simp)
   have hb6:=bthen hb hb5
   have hz6:w.heap.size + 1 ≤ w5.heap.size:=by have:=hb5.size;omega
   go_wp2_with (at_builtin;refine wpList_append_rd w5 rfl _ _ 81 rfl (w.heap.size + 1) 9 _ 1 16 Tryz.underlying81 info_str rfl (by decide) hown2 rfl hrd5 rfl (by simp) (strs_one _) (by omega) (by omega) hz6 ?_)
   intro v' w7 hown7 hb7 hgr7
   have H7:Hid (w7.ownsRow (w.heap.size + 1) 9 1 v' (namesL (s.take (k + 1))).length ((namesL (s.take (k + 1))).map strV)):=Lib.hid (by rw [HT.out,List.map_append,List.length_append];exact hown7)
   have hb8:=(HB.out.trans (hb5.mono hz)).trans hb7
   clear hown hown2 hown7 hgr7 hb7 hb6 hrd5
   go_wp2_with fail
   go_roundw
   case rel=>exact ⟨k + 1,by omega,by go_num,H7.out,hb8⟩
   case measure=>simp [intOf];omega
  ·obtain rfl:k=s.length:=by omega
   rw [List.take_length] at hown
   have HO:=Lib.hid (Rd.of_own hown)
   clear hown
   go_wp2_with fail
   go_ret
   exact ⟨_,rfl,HO.out,hb⟩
theorem RNames_any (e:Ex):RNamesH e:=by
 induction e using Ex.ind with
 | h o n m s ih=>
  intro d v w hd h hs
  have hl:=names_len _ d h
  have hp:2 ^ d ≤ 2 ^ 24:=Nat.pow_le_pow_right (by omega) hd
  have hf:=rightE.form h
  cases hf with
  | num n d=>exact rnames_node sNum n [] [] (by decide) d (by omega) (by simp) (by simp [namesL]) (by simp) v w hs
  | name m d=>exact rnames_leaf m 0 v w hs
  | here d=>exact rnames_node sHere 0 [] [] (by decide) d (by omega) (by simp) (by simp [namesL]) (by simp) v w hs
  | neg a d hA=>exact rnames_node sNEG 0 [] [a] (by decide) d (by omega) (by simpa using hA) (by simp [namesE] at hl;omega) ih v w hs
  | not a d hA=>exact rnames_node sNOT 0 [] [a] (by decide) d (by omega) (by simpa using hA) (by simp [namesE] at hl;omega) ih v w hs
  | two o r a b d ho h1 h2=>
   have hn:=ho.binds.2.2.1
   have e1:namesE (.mk o 0 [] [a,b])=namesL [a,b]:=by simp [namesE,hn]
   have:=rnames_node o 0 [] [a,b] (by simpa using hn) d (by omega) (by simp [h1,h2]) (by rw [e1] at hl;omega) ih v w hs
   rw [e1]
   exact this
end Go.Proofs.YtagplldaooipmaaGreatDoor
/- The reference's layer 12: an operand is right. -/
namespace Go.Proofs.YtagplldaooipmaaGreatDoor
open Go.RowKit
set_option maxHeartbeats 4000000 in
theorem refArg_any (a b:Ar) (v u:Value) (w:World) (hs:SubAt w (· < w.heap.size) v a.e.sub) (ht:SubAt w (· < w.heap.size) u b.e.sub) :
    Calls Tryz.prog 22 #[arV a v,arV b u] w fun e w'=>e=.returned (.bool (sameA a b))∧Below w.heap.size w w':=by
  have HQ:=Lib.hid (fun W (hW:Below w.heap.size w W)=>refSame_any a.e b.e v u W (hs.at hW hW.size) (ht.at hW hW.size))
  obtain ⟨A,c,rfl,hc,hm⟩:=hs.form
  obtain ⟨A',c',rfl,hc',hm'⟩:=ht.form
  clear hs ht hc hm hc' hm'
  obtain ⟨aw,at1,ais,amem,ae⟩:=a
  obtain ⟨bw,bt1,bis,bmem,be⟩:=b
  unfold arV sameA
  simp only at *
  generalize sameE ae be=res at *
  generalize ae.sub.length=sl at *
  generalize be.sub.length=tl at *
  obtain ⟨o,n,m,s⟩:=ae
  obtain ⟨o',n',m',s'⟩:=be
  simp only [Ex.op,Ex.n,Ex.name] at *
  have B2:=Lib.hid (show Below w.heap.size w ((w.alloc (.cells #[.string ⟨aw.toArray⟩,.string ⟨at1.toArray⟩,.bool ais,.bool amem,.string ⟨o.toArray⟩,.int .u16 n,.string ⟨m.toArray⟩,.slice A sl c] 41)).alloc (.cells #[.string ⟨bw.toArray⟩,.string ⟨bt1.toArray⟩,.bool bis,.bool bmem,.string ⟨o'.toArray⟩,.int .u16 n',.string ⟨m'.toArray⟩,.slice A' tl c'] 41)) from ((Below.refl _ _).alloc (Nat.le_refl _) _).alloc (by simp) _)
  by_cases h1:aw=bw
  · subst h1
    rw [show (aw == aw)=true by simp,Bool.true_and]
    by_cases h2:at1=bt1
    · subst h2
      rw [show (at1 == at1)=true by simp,Bool.true_and]
      cases ais <;> cases bis <;> cases amem <;> cases bmem
      all_goals (
        go_enter Tryz.func22, Tryz.ntmps22
        go_wp2_with fail
        first
        | (refine (HQ.out _ B2.out).mono ?_
           rintro e w1 ⟨rfl,hb1⟩
           go_wp2_with fail
           go_ret
           exact ⟨rfl,B2.out.trans (hb1.mono B2.out.size)⟩)
        | (go_ret
           exact ⟨rfl,B2.out⟩))
    · have n2:=str_ne h2
      rw [n2]
      simp only [Bool.false_and]
      clear h2
      go_enter Tryz.func22, Tryz.ntmps22
      go_wp2_with fail
      go_ret
      exact ⟨rfl,B2.out⟩
  · have n1:=str_ne h1
    rw [n1]
    simp only [Bool.false_and]
    clear h1
    go_enter Tryz.func22, Tryz.ntmps22
    go_wp2_with fail
    go_ret
    exact ⟨rfl,B2.out⟩
set_option maxHeartbeats 1000000 in
theorem rtext12_any (s:List UInt8) (w:World) (hl:s.length ≤ 1000000):Calls Tryz.prog 131 #[.string ⟨s.toArray⟩] w fun e w'=>e=.returned (.bool (!s.any oddB))∧w=w':=by
 have HY:Hid (∀ k (hk:k < s.length),oddB s[k]=true → s.any oddB=true):=Lib.hid (fun k hk h=>List.any_eq_true.2 ⟨_,List.getElem_mem hk,h⟩)
 have HN:Hid ((∀ k (hk:k < s.length),oddB s[k]=false) → s.any oddB=false):=Lib.hid (fun h=>by
  rw [List.any_eq_false]
  intro x hx
  obtain ⟨j,hj,rfl⟩:=List.getElem_of_mem hx
  simp [h j hj])
 generalize s.any oddB=res at *
 go_enter Tryz.func131, Tryz.ntmps131
 go_wp2_with fail
 go_loop [3] (fun i=>∃ k:Nat,k ≤ s.length∧i=.int .i64 k∧∀ j (hj:j < s.length),j < k → oddB s[j]=false) (fun i=>s.length - (intOf i).toNat)
 case atStart=>exact ⟨0,Nat.zero_le _,rfl,fun j _ h=>absurd h (by omega)⟩
 case round=>
  obtain ⟨k,hk,rfl,hno⟩:=hrel
  have HNO:=Lib.hid hno
  clear hno
  by_cases hlt:k < s.length
  ·have e1:(k:Int) < (s.length:Int):=by omega
   cases ho:oddB s[k]
   ·have HS:Hid (∀ j (hj:j < s.length),j < k + 1 → oddB s[j]=false):=Lib.hid (fun j hj h=>by
     by_cases hjk:j=k
     ·subst hjk;exact ho
     ·exact HNO.out j hj (by omega))
    have hlt2:=Lib.hid (show k + 1 ≤ s.length from hlt)
    unfold oddB at ho
    have q1:(32:Int) ≤ ((s[k].toNat:Nat):Int):=by simp at ho ⊢;omega
    have q2:((s[k].toNat:Nat):Int) ≤ (126:Int):=by simp at ho ⊢;omega
    clear ho
    go_wp2_with fail
    go_round
    case rel=>exact ⟨k + 1,hlt2.out,by go_num,HS.out⟩
    case measure=>simp [intOf];omega
   ·have hr:=HY.out k hlt ho
    subst hr
    unfold oddB at ho
    by_cases q1:((s[k].toNat:Nat):Int) < 32
    ·clear ho
     go_wp2_with fail
     go_ret
     exact ⟨rfl,rfl⟩
    ·have q1':(32:Int) ≤ ((s[k].toNat:Nat):Int):=by omega
     have q2:(126:Int) < ((s[k].toNat:Nat):Int):=by simp at ho;omega
     clear ho q1
     go_wp2_with fail
     go_ret
     exact ⟨rfl,rfl⟩
  ·have hr:res=false:=HN.out (fun j hj=>HNO.out j hj (by omega))
   subst hr
   go_wp2_with fail
   go_ret
   exact ⟨rfl,rfl⟩
theorem rightA_word12 (d:Int) (op:List UInt8) (a:Ar) (h:a.w ≠ []):rightA d op a=(wordB d a.w && sameA a ⟨a.w,[],false,false,ex0⟩):=by
 obtain ⟨aw,at1,ais,amem,ae⟩:=a
 unfold rightA emptyA sameA
 rw [if_pos h]
 simp only [beq_self_eq_true,Bool.true_and]
 cases wordB d aw <;> cases sameE ae ex0 <;> cases amem <;> cases ais <;> simp
theorem rightA_text12 (d:Int) (op:List UInt8) (a:Ar) (h:a.w = []) (hi:a.is=true):rightA d op a=(op == sDB && !a.t.any oddB && sameA a ⟨[],a.t,true,false,ex0⟩):=by
 obtain ⟨aw,at1,ais,amem,ae⟩:=a
 simp only at h hi
 subst h;subst hi
 unfold rightA emptyA sameA
 rw [if_neg (by simp),if_pos rfl,quote_back]
 simp only
 cases at1.any oddB <;> cases sameE ae ex0 <;> cases amem <;> cases (op == sDB) <;> simp
end Go.Proofs.YtagplldaooipmaaGreatDoor
/- The reference's layer 12: an operand is right: the walks. -/
namespace Go.Proofs.YtagplldaooipmaaGreatDoor
open Go.RowKit
set_option maxHeartbeats 4000000 in
set_option maxRecDepth 100000 in
theorem rarg12_word (d:Int) (op:List UInt8) (a:Ar) (v:Value) (w:World) (hw:a.w ≠ []) (hs:SubAt w (· < w.heap.size) v a.e.sub) :
  Calls Tryz.prog 90 #[.int .i64 d,.string ⟨op.toArray⟩,arV a v] w fun e w'=>e=.returned (.bool (rightA d op a))∧Below w.heap.size w w':=by
 have HA:=Lib.hid (fun W (hW:Below w.heap.size w W)=>refArg_any a ⟨a.w,[],false,false,ex0⟩ v (.slice none 0 0) W (hs.at hW hW.size) (SubAt.nil _ _))
 have HW:=Lib.hid (fun W=>rword12_any d a.w W)
 rw [rightA_word12 d op a hw]
 have n0:=str_ne hw
 have n0':a.w.isEmpty=false:=by simpa using hw
 obtain ⟨A,c,rfl,hc,hm⟩:=hs.form
 clear hs hc hm hw
 obtain ⟨aw,at1,ais,amem,ae⟩:=a
 unfold arV at HA
 unfold arV
 simp only at *
 generalize wordB d aw=wb at *
 generalize sameA _ _=sb at *
 generalize ae.sub.length=sl at *
 obtain ⟨o,n,m,s⟩:=ae
 simp only [Ex.op,Ex.n,Ex.name,ex0] at *
 cases wb
 ·simp only [Bool.false_and]
  clear HA
  go_enter Tryz.func90, Tryz.ntmps90
  go_wp2_with fail
  refine (HW.out _).mono ?_
  rintro e w1 ⟨rfl,hb1⟩
  have B1:=Lib.hid (bthen ((Below.refl _ _).alloc (Nat.le_refl _) _) hb1)
  clear hb1
  go_wp2_with fail
  go_ret
  exact ⟨rfl,B1.out⟩
 ·simp only [Bool.true_and]
  go_enter Tryz.func90, Tryz.ntmps90
  go_wp2_with fail
  refine (HW.out _).mono ?_
  rintro e w1 ⟨rfl,hb1⟩
  have B1:=Lib.hid (bthen ((Below.refl _ _).alloc (Nat.le_refl _) _) hb1)
  obtain ⟨c0,c1,c2,c3,c4,c5,c6,c7⟩:=cells8 ((hb1.block w.heap.size (by simp)).trans (heap_alloc_new w _))
  clear hb1
  go_wp2_with fail
  refine (HA.out _ B1.out).mono ?_
  rintro e w2 ⟨rfl,hb2⟩
  go_wp2_with fail
  go_ret
  exact ⟨rfl,bthen B1.out hb2⟩
set_option maxHeartbeats 4000000 in
set_option maxRecDepth 100000 in
theorem rarg12_text (d:Int) (op:List UInt8) (a:Ar) (v:Value) (w:World) (hw:a.w = []) (hi:a.is=true) (hl:a.t.length ≤ 1000000) (hs:SubAt w (· < w.heap.size) v a.e.sub) :
  Calls Tryz.prog 90 #[.int .i64 d,.string ⟨op.toArray⟩,arV a v] w fun e w'=>e=.returned (.bool (rightA d op a))∧Below w.heap.size w w':=by
 have HA:=Lib.hid (fun W (hW:Below w.heap.size w W)=>refArg_any a ⟨[],a.t,true,false,ex0⟩ v (.slice none 0 0) W (hs.at hW hW.size) (SubAt.nil _ _))
 have HT:=Lib.hid (fun W=>(rtext12_any a.t W hl).mono fun _ _ h=>And.intro h.1 h.2.symm)
 rw [rightA_text12 d op a hw hi]
 obtain ⟨A,c,rfl,hc,hm⟩:=hs.form
 clear hs hc hm hl
 obtain ⟨aw,at1,ais,amem,ae⟩:=a
 simp only at hw hi
 subst hw
 subst hi
 unfold arV at HA
 unfold arV
 simp only at *
 generalize (!at1.any oddB)=tb at *
 generalize sameA _ _=sb at *
 generalize ae.sub.length=sl at *
 obtain ⟨o,n,m,s⟩:=ae
 simp only [Ex.op,Ex.n,Ex.name,ex0] at *
 by_cases hop:op=sDB
 ·subst hop
  rw [show (sDB == sDB)=true by simp,Bool.true_and]
  cases tb
  ·simp only [Bool.false_and]
   clear HA
   go_enter Tryz.func90, Tryz.ntmps90
   go_wp2_with fail
   refine (HT.out _).mono ?_
   rintro e w1 ⟨rfl,rfl⟩
   go_wp2_with fail
   go_ret
   exact ⟨rfl,(Below.refl _ _).alloc (Nat.le_refl _) _⟩
  ·simp only [Bool.true_and]
   have B1:=Lib.hid ((Below.refl w.heap.size w).alloc (Nat.le_refl _) (.cells #[.string ⟨#[]⟩,.string ⟨at1.toArray⟩,.bool true,.bool amem,.string ⟨o.toArray⟩,.int .u16 n,.string ⟨m.toArray⟩,.slice A sl c] 41))
   go_enter Tryz.func90, Tryz.ntmps90
   go_wp2_with fail
   refine (HT.out _).mono ?_
   rintro e w1 ⟨rfl,rfl⟩
   go_wp2_with fail
   refine (HA.out _ B1.out).mono ?_
   rintro e w2 ⟨rfl,hb2⟩
   go_wp2_with fail
   go_ret
   exact ⟨rfl,bthen B1.out hb2⟩
 ·have n1:=str_ne hop
  rw [n1]
  simp only [Bool.false_and]
  clear hop HA HT
  go_enter Tryz.func90, Tryz.ntmps90
  go_wp2_with fail
  go_ret
  exact ⟨rfl,(Below.refl _ _).alloc (Nat.le_refl _) _⟩
set_option maxHeartbeats 8000000 in
set_option maxRecDepth 100000 in
theorem rarg12_expr (d:Int) (op:List UInt8) (a:Ar) (v:Value) (w:World) (hw:a.w = []) (hi:a.is=false) (hf:fitA a) (hs:SubAt w (· < w.heap.size) v a.e.sub) :
  Calls Tryz.prog 90 #[.int .i64 d,.string ⟨op.toArray⟩,arV a v] w fun e w'=>e=.returned (.bool (rightA d op a))∧Below w.heap.size w w':=by
 have HE:=Lib.hid (fun W (hW:Below w.heap.size w W)=>RRight_any a.e v W hf.2.2 (hs.at hW hW.size))
 have HN:=Lib.hid (fun (hr:rightE a.e 24=true) W (hW:Below w.heap.size w W)=>RNames_any a.e 24 v W (by omega) hr (hs.at hW hW.size))
 have HL:=Lib.hid (fun (hr:rightE a.e 24=true)=>names_len a.e 24 hr)
 have HX:=Lib.hid (fun (hr:rightE a.e 24=true)=>names_short a.e 24 hr)
 have HR:Hid (rightA d op a=if a.t ≠ [] ∨ (a.mem=true∧d=0) ∨ rightE a.e 24=false then false else (namesE a.e).all (plainB d)):=Lib.hid (by unfold rightA;rw [if_neg (by simp [hw]),if_neg (by simp [hi])])
 generalize rightA d op a=res at *
 obtain ⟨A,c,rfl,hc,hm⟩:=hs.form
 clear hs hc hm hf
 obtain ⟨aw,at1,ais,amem,ae⟩:=a
 simp only at hw hi
 subst hw hi
 unfold arV
 simp only at *
 generalize rightE ae 24=re at *
 generalize namesE ae=ns at *
 generalize ae.sub.length=sl at *
 obtain ⟨o,n,m,s⟩:=ae
 simp only [Ex.op,Ex.n,Ex.name] at *
 have B1:=Lib.hid ((Below.refl w.heap.size w).alloc (Nat.le_refl _) (.cells #[.string ⟨#[]⟩,.string ⟨at1.toArray⟩,.bool false,.bool amem,.string ⟨o.toArray⟩,.int .u16 n,.string ⟨m.toArray⟩,.slice A sl c] 41))
 by_cases hat:at1 = []
 ·subst hat
  by_cases hmd:amem=true∧d=0
  ·obtain ⟨rfl,rfl⟩:=hmd
   have HB:Hid (res=false):=Lib.hid (by rw [HR.out];simp)
   clear HR HE HN HL HX
   go_enter Tryz.func90, Tryz.ntmps90
   go_wp2_with fail
   go_ret
   rw [HB.out]
   exact ⟨rfl,B1.out⟩
  ·have hnm:amem=true → (d == 0)=false:=fun h=>by rw [beq_eq_false_iff_ne];exact fun h2=>hmd ⟨h,h2⟩
   cases re with
   | false=>
    have HB:Hid (res=false):=Lib.hid (by rw [HR.out];simp)
    clear HR hmd HN HL HX
    cases amem
    all_goals (
     first | have hd0:=hnm rfl | skip
     clear hnm
     go_enter Tryz.func90, Tryz.ntmps90
     go_wp2_with fail
     refine (HE.out _ B1.out).mono ?_
     rintro e w2 ⟨rfl,hb2⟩
     go_wp2_with fail
     go_ret
     rw [HB.out]
     exact ⟨rfl,bthen B1.out hb2⟩)
   | true=>
    have HB:Hid (res=ns.all (plainB d)):=Lib.hid (by rw [HR.out,if_neg];simp;exact fun h h2=>hmd ⟨h,h2⟩)
    have hnl:=HL.out rfl
    have HX2:=Lib.hid (fun x hx=>Nat.le_trans (HX.out rfl x hx) (show 16 ≤ 1000000 by omega))
    have HN2:=Lib.hid (HN.out rfl)
    have HY:Hid (∀ k (hk:k < ns.length),plainB d ns[k]=false → res=false):=Lib.hid (fun k hk h=>by rw [HB.out,List.all_eq_false];exact ⟨_,List.getElem_mem hk,by simp [h]⟩)
    have HZ:Hid ((∀ k (hk:k < ns.length),plainB d ns[k]=true) → res=true):=Lib.hid (fun h=>by
     rw [HB.out,List.all_eq_true]
     intro x hx
     obtain ⟨j,hj,rfl⟩:=List.getElem_of_mem hx
     exact h j hj)
    clear HR hmd HN HL HX HB
    cases amem
    all_goals (
     first | have hd0:=hnm rfl | skip
     clear hnm
     go_enter Tryz.func90, Tryz.ntmps90
     go_wp2_with fail
     refine (HE.out _ B1.out).mono ?_
     rintro e w2 ⟨rfl,hb2⟩
     have HB2:=Lib.hid (bthen B1.out hb2)
     obtain ⟨c0,c1,c2,c3,c4,c5,c6,c7⟩:=cells8 ((hb2.block w.heap.size (by simp)).trans (heap_alloc_new w _))
     clear hb2
     go_wp2_with fail
     refine (HN2.out _ HB2.out).mono ?_
     rintro e w3 ⟨v3,rfl,hr3,hb3⟩
     have HB3:=Lib.hid (bthen HB2.out hb3)
     obtain ⟨A3,k3,rfl,hk3⟩:=hr3.form
     have RD:=Lib.hid hr3
     clear hr3 hb3 c0 c1 c2 c3 c4 c5 c6 c7 HB2 HE HN2
     go_wp2_with fail
     go_loopw [8] (fun i wr=>∃ k:Nat,k ≤ ns.length∧i=.int .i64 k∧(∀ j (hj:j < ns.length),j < k → plainB d ns[j]=true)∧Below w3.heap.size w3 wr) (fun i _=>ns.length - (intOf i).toNat)
     case atStart=>exact ⟨0,Nat.zero_le _,rfl,fun j _ h=>absurd h (by omega),Below.refl _ _⟩
     case round=>
      obtain ⟨k,hk,rfl,hno,hbr⟩:=hrel
      have HNO:=Lib.hid hno
      have HBR:=Lib.hid hbr
      by_cases hlt:k < ns.length
      ·obtain ⟨g,q,rfl,hg,hck⟩:=rd_strR RD.out (by omega)
       have ck:=(hbr.cell (p:=⟨g,q + k,none⟩) hg).trans (hck k hlt)
       have e1:(k:Int) < (ns.length:Int):=by omega
       have HP:=Lib.hid (fun W=>rplain_any d ns[k] W (HX2.out _ (List.getElem_mem hlt)))
       have hlt2:=Lib.hid (show k + 1 ≤ ns.length from hlt)
       clear hck hno hbr
       have HYk:=Lib.hid (HY.out k hlt)
       have HS:Hid (plainB d ns[k]=true → ∀ j (hj:j < ns.length),j < k + 1 → plainB d ns[j]=true):=Lib.hid (fun hp j hj h=>by
        by_cases hjk:j=k
        ·subst hjk;exact hp
        ·exact HNO.out j hj (by omega))
       generalize ns[k]=y at *
       generalize plainB d y=p at *
       cases p
       ·have hr:=HYk.out rfl
        subst hr
        clear HYk HS
        go_wp2_with fail
        refine (HP.out _).mono ?_
        rintro e w5 ⟨rfl,hb5⟩
        go_wp2_with fail
        go_ret
        exact ⟨rfl,bthen (bthen HB3.out HBR.out) hb5⟩
       ·have HS2:=Lib.hid (HS.out rfl)
        clear HYk HS
        go_wp2_with fail
        refine (HP.out _).mono ?_
        rintro e w5 ⟨rfl,hb5⟩
        go_wp2_with fail
        go_roundw
        case rel=>exact ⟨k + 1,hlt2.out,by go_num,HS2.out,bthen HBR.out hb5⟩
        case measure=>simp [intOf];omega
      ·have hr:res=true:=HZ.out (fun j hj=>HNO.out j hj (by omega))
       clear hno hbr
       subst hr
       go_wp2_with fail
       go_ret
       exact ⟨rfl,bthen HB3.out HBR.out⟩)
 ·have HB:Hid (res=false):=Lib.hid (by rw [HR.out];simp [hat])
  have n0:=str_ne hat
  have n0':at1.isEmpty=false:=by simpa using hat
  clear hat HR HE HN HL HX
  go_enter Tryz.func90, Tryz.ntmps90
  go_wp2_with fail
  go_ret
  rw [HB.out]
  exact ⟨rfl,B1.out⟩
theorem rarg12_any (d:Int) (op:List UInt8) (a:Ar) (v:Value) (w:World) (hf:fitA a) (hs:SubAt w (· < w.heap.size) v a.e.sub) :
  Calls Tryz.prog 90 #[.int .i64 d,.string ⟨op.toArray⟩,arV a v] w fun e w'=>e=.returned (.bool (rightA d op a))∧Below w.heap.size w w':=by
 by_cases hw:a.w = []
 ·cases hi:a.is
  ·exact rarg12_expr d op a v w hw hi hf hs
  ·exact rarg12_text d op a v w hw hi (by have:=hf.2.1;omega) hs
 ·exact rarg12_word d op a v w hw hs
end Go.Proofs.YtagplldaooipmaaGreatDoor
