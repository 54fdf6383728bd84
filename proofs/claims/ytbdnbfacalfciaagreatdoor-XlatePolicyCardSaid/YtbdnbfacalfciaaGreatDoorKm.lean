/- Km. -/
import Derived.Test.YtbdnbfacalfciaaGreatDoorKb
import Derived.Test.YtbdnbfacalfciaaGreatDoorKd
import Derived.Test.YtbdnbfacalfciaaGreatDoorKe
import Derived.Test.YtbdnbfacalfciaaGreatDoorKa
import Derived.Lib.SmallJoins
namespace Go.Proofs.YtbdnbfacalfciaaGreatDoor
set_option maxRecDepth 100000
set_option maxHeartbeats 1000000
open Go.RowKit
def GWL (w : World) : Prop := Lib.TabIs Tryz.prog w "strings.asciiSpace" .u8 Lib.asciiSpaceTab ∧ GW w
theorem GWL.below {w w':World} (h:GWL w) (hb:Below w.heap.size w w'):GWL w':=
 ⟨Joins.tab_stays (g:=3) (by kernel_rfl) h.1 hb (Nat.le_refl _),h.2.below hb⟩
theorem zindex_any (ws:List (List UInt8)) (x:List UInt8) (v:Value) (w:World) (hW:WAt w ws v) (hl:ws.length<=1000) :
  Calls Tryz.prog 246 #[v,.string ⟨x.toArray⟩] w fun e w'=>(∃ z:Int,e=.returned (.int .i64 z)/\decide (0<=z)=decide (x∈ws))/\w=w':=by
 obtain ⟨g,rfl,hg,hc⟩:=hW
 have HC:=LH hc
 have HM:Hid (decide (x∈ws)=decide (x∈ws)):=LH rfl
 have HY:Hid (x∈ws->decide (x∈ws)=true):=LH (fun h=>decide_eq_true h)
 have HN:Hid (x∉ws->decide (x∈ws)=false):=LH (fun h=>decide_eq_false h)
 generalize decide (x∈ws)=res at *
 clear hc HM
 go_enter Tryz.func246, Tryz.ntmps246
 go_wp2_with fail
 go_loop [8] (fun i=>∃ k:Nat,k<=ws.length/\i=.int .i64 k/\∀ j (hj:j<ws.length),j<k->x≠ws[j]) (fun i=>ws.length - (intOf i).toNat)
 case atStart=>exact ⟨0,Nat.zero_le _,rfl,fun j _ h=>absurd h (by omega)⟩
 case round=>
  obtain ⟨k,hk,rfl,hno⟩:=hrel
  have HNO:=LH hno
  clear hno
  by_cases hlt:k<ws.length
  ·have hck:=HC.out k hlt
   have HK:Hid (ws[k]∈ws):=LH (List.getElem_mem hlt)
   by_cases he:x=ws[k]
   ·have hr:=HY.out (he ▸ HK.out)
    subst hr
    rw [← he] at hck
    clear he HK
    go_wp2_with fail
    go_ret
    exact ⟨⟨_,rfl,by simp⟩,rfl⟩
   ·have HS:Hid (∀ j (hj:j<ws.length),j<k+1->x≠ws[j]):=LH (fun j hj h=>by
     by_cases hjk:j=k
     ·subst hjk;exact he
     ·exact HNO.out j hj (by omega))
    have hb:(x == ws[k])=false:=by simpa using he
    generalize ws[k]=y at *
    clear he HK
    go_wp2_with fail
    go_round
    case rel=>exact ⟨k+1,by omega,by go_num,HS.out⟩
    case measure=>simp [intOf];omega
  ·have hr:res=false:=HN.out (fun h=>by obtain ⟨j,hj,he⟩:=List.getElem_of_mem h;exact HNO.out j hj (by omega) he.symm)
   subst hr
   go_wp2_with fail
   go_ret
   exact ⟨⟨_,rfl,by simp⟩,rfl⟩
theorem zcont_any (ws:List (List UInt8)) (x:List UInt8) (v:Value) (w:World) (hW:WAt w ws v) (hl:ws.length<=1000) :
  Calls Tryz.prog 223 #[v,.string ⟨x.toArray⟩] w fun e w'=>e=.returned (.bool (decide (x∈ws)))/\w=w':=by
 have HI:=LH (zindex_any ws x v w hW hl)
 obtain ⟨g,n,rfl⟩:=hW.form
 generalize decide (x∈ws)=res at *
 clear hW
 go_enter Tryz.func223, Tryz.ntmps223
 go_wp2_with fail
 refine HI.out.mono ?_
 rintro e w1 ⟨⟨z,rfl,hz⟩,rfl⟩
 have HZ:=LH hz
 clear hz
 go_wp2_with fail
 go_ret
 exact ⟨ret_bool HZ.out,rfl⟩
theorem has_any (ws:List (List UInt8)) (x:List UInt8) (v:Value) (w:World) (hW:WAt w ws v) (hl:ws.length<=1000) :
  Calls Tryz.prog 187 #[v,.string ⟨x.toArray⟩] w fun e w'=>e=.returned (.bool (decide (x∈ws)))/\w=w':=by
 have HI:=LH (zcont_any ws x v w hW hl)
 obtain ⟨g,n,rfl⟩:=hW.form
 generalize decide (x∈ws)=res at *
 clear hW
 go_enter Tryz.func187, Tryz.ntmps187
 go_wp2_with fail
 refine HI.out.mono ?_
 rintro e w1 ⟨rfl,rfl⟩
 go_wp2_with fail
 go_ret
 exact ⟨rfl,rfl⟩
theorem zof_any (xs ws:List (List UInt8)) (g:Nat) (w:World) (hg:GWL w) (hb:g<w.heap.size) (hc:∀ j (hj:j<xs.length),w.cell? ⟨g,j,none⟩=some (.string ⟨xs[j].toArray⟩)) (hn:xs.length<=1000)
  (hw:Lib.fields (Lib.join xs [32])=ws) (hl:(Lib.join xs [32]).length<=1000) (ha:∀ c∈Lib.join xs [32],c.toNat<128) :
  Calls Tryz.prog 188 #[.slice (some ⟨g,0,none⟩) xs.length xs.length] w fun e w'=>∃ v,e=.returned (.agg #[v])/\WAt w' ws v/\Below w.heap.size w w':=by
 have HJ:=LH (fun W (hW:Below w.heap.size w W)=>Tryz.strings_Join g 0 xs.length (xs.map fun s=>⟨s.toArray⟩) ⟨#[32]⟩ W (fun j x hx=>by
  simp at hx
  obtain ⟨a,hx,rfl⟩:=hx
  obtain ⟨hj,rfl⟩:=List.getElem?_eq_some_iff.1 hx
  rw [Nat.zero_add,hW.cell (p:=⟨g,j,none⟩) hb]
  exact hc j hj) (Nat.lt_of_lt_of_le hb hW.size) (by simp;omega) (by simp) (by simp;simpa [Function.comp_def] using (show (Lib.join xs [32]).length<=140737488355328 by omega)))
 have HF:=LH (fun W (hW:GWL W)=>Tryz.strings_Fields ⟨(Lib.join xs [32]).toArray⟩ W (by simp [ByteArray.size];omega) (fun j b hb=>ha b (List.mem_of_getElem? hb)) hW.1)
 simp only [List.length_map,List.map_map,Function.comp_def] at HJ
 go_enter Tryz.func188, Tryz.ntmps188
 go_wp2_with fail
 refine (HJ.out _ ((Below.refl _ _).alloc (Nat.le_refl _) _)).mono ?_
 rintro e w1 ⟨rfl,hb1⟩
 have B1:=LH (bthen ((Below.refl w.heap.size w).alloc (Nat.le_refl _) _) hb1)
 have C1:=LH ((hb1.block w.heap.size (by simp)).trans (heap_alloc_new w _))
 go_wp2_with fail
 refine (HF.out _ (hg.below B1.out)).mono ?_
 rintro e w2 ⟨rfl,rfl⟩
 have W2:=LH (fields_laid w1 ws)
 simp only [hw]
 have C2:=LH ((Below.heap_alloc w1 (.cells (ws.map fun l=>Value.string ⟨l.toArray⟩).toArray 9) w.heap.size (loh C1.out)).trans C1.out)
 have c0:=coh (i:=0) C2.out
 have f0:=foh (i:=0) C2.out
 have B2:=LH (B1.out.alloc B1.out.size (.cells (ws.map fun l=>Value.string ⟨l.toArray⟩).toArray 9))
 simp at c0 f0
 generalize w1.alloc (.cells (ws.map fun l=>Value.string ⟨l.toArray⟩).toArray 9)=w3 at *
 have hne:w1.heap.size≠w.heap.size:=by have:=loh C1.out;omega
 clear C1 C2 hb1 HJ HF
 go_wp2_with fail
 refine bodyPost_ret (v:=.agg #[.slice (some ⟨w1.heap.size,0,none⟩) ws.length ws.length]) (by simp [results,Tryz.results188,go_sem,c0]) rfl ⟨_,rfl,W2.out.set hne _ _,B2.out.setCell (by simp) _⟩
theorem tongue_0 (A:Option Addr) (n c:Nat) (w:World):Sem.run Tryz.prog (Instr.field 268 (.agg #[.slice A n c]) 0) w=.ok (.slice A n c) w:=by kernel_rfl
attribute [go_sem] tongue_0
def opS:List UInt8:=[79,82,32,88,79,82,32,65,78,68,32,78,79,84,32,77,79,68,32,83,72,76,32,83,72,82]
def intelP:List (List UInt8):=[opS,[65,32,66,32,67,32,68,32,69,32,72,32,76,32,77,32,83,80,32,80,83,87]]
theorem row_cells (w:World) (xs:List (List UInt8)) (t:TypeId):∀ j (hj:j<xs.length),(w.alloc (.cells (xs.map fun l=>Value.string ⟨l.toArray⟩).toArray t)).cell? ⟨w.heap.size,j,none⟩=some (.string ⟨xs[j].toArray⟩):=by
 intro j hj
 rw [coh (heap_alloc_new w _)]
 simp [hj]
def zilogP:List (List UInt8):=[opS,[65,32,66,32,67,32,68,32,69,32,72,32,76,32,65,70,32,66,67,32,68,69,32,72,76,32,83,80],[78,90,32,90,32,78,67,32,80,79,32,80,69,32,80,32,77]]
def eightP:List (List UInt8):=[opS,[65,76,32,67,76,32,68,76,32,66,76,32,65,72,32,67,72,32,68,72,32,66,72],[65,88,32,67,88,32,68,88,32,66,88,32,83,80,32,66,80,32,83,73,32,68,73]]
theorem intelP_ok:Lib.fields (Lib.join intelP [32])=intelW/\(Lib.join intelP [32]).length<=1000/\∀ c∈Lib.join intelP [32],c.toNat<128:=by decide +kernel
theorem zilogP_ok:Lib.fields (Lib.join zilogP [32])=zilogW/\(Lib.join zilogP [32]).length<=1000/\∀ c∈Lib.join zilogP [32],c.toNat<128:=by decide +kernel
theorem eightP_ok:Lib.fields (Lib.join eightP [32])=eightW/\(Lib.join eightP [32]).length<=1000/\∀ c∈Lib.join eightP [32],c.toNat<128:=by decide +kernel
theorem res_intel (x:List UInt8) (w:World) (hg:GWL w):Calls Tryz.prog 140 #[.int .i64 0,.string ⟨x.toArray⟩] w fun e w'=>e=.returned (.bool (resB 0 x))/\Below w.heap.size w w':=by
 have HL:=LH (fun W (h1:GWL W) g h2 h3=>zof_any intelP intelW g W h1 h2 h3 (by decide) intelP_ok.1 intelP_ok.2.1 intelP_ok.2.2)
 have HR:Hid (resB 0 x=decide (x∈intelW)):=LH (by simp [resB])
 have HH:=LH (fun v W (h:WAt W intelW v)=>has_any intelW x v W h (by decide))
 generalize decide (x∈intelW)=res at *
 have B0:=LH ((Below.refl w.heap.size w).alloc (Nat.le_refl _) (.cells (intelP.map fun l=>Value.string ⟨l.toArray⟩).toArray 9))
 go_enter Tryz.func140, Tryz.ntmps140
 go_wp2_with fail
 refine (HL.out _ (hg.below B0.out) w.heap.size (by simp) (row_cells w intelP _)).mono ?_
 rintro e w1 ⟨v,rfl,hW,hb1⟩
 have HHv:=LH (HH.out v w1 hW)
 obtain ⟨g,n,rfl⟩:=hW.form
 have B1:=LH (bthen B0.out hb1)
 clear HH hb1 hW HL
 go_wp2_with fail
 refine HHv.out.mono ?_
 rintro e w2 ⟨rfl,rfl⟩
 go_wp2_with fail
 go_ret
 rw [HR.out]
 exact ⟨rfl,B1.out⟩
theorem res_zilog (x:List UInt8) (w:World) (hg:GWL w):Calls Tryz.prog 140 #[.int .i64 1,.string ⟨x.toArray⟩] w fun e w'=>e=.returned (.bool (resB 1 x))/\Below w.heap.size w w':=by
 have HL:=LH (fun W (h1:GWL W) g h2 h3=>zof_any zilogP zilogW g W h1 h2 h3 (by decide) zilogP_ok.1 zilogP_ok.2.1 zilogP_ok.2.2)
 have HR:Hid (resB 1 x=decide (x∈zilogW)):=LH (by simp [resB])
 have HH:=LH (fun v W (h:WAt W zilogW v)=>has_any zilogW x v W h (by decide))
 generalize decide (x∈zilogW)=res at *
 have B0:=LH ((Below.refl w.heap.size w).alloc (Nat.le_refl _) (.cells (zilogP.map fun l=>Value.string ⟨l.toArray⟩).toArray 9))
 go_enter Tryz.func140, Tryz.ntmps140
 go_wp2_with fail
 refine (HL.out _ (hg.below B0.out) w.heap.size (by simp) (row_cells w zilogP _)).mono ?_
 rintro e w1 ⟨v,rfl,hW,hb1⟩
 have HHv:=LH (HH.out v w1 hW)
 obtain ⟨g,n,rfl⟩:=hW.form
 have B1:=LH (bthen B0.out hb1)
 clear HH hb1 hW HL
 go_wp2_with fail
 refine HHv.out.mono ?_
 rintro e w2 ⟨rfl,rfl⟩
 go_wp2_with fail
 go_ret
 rw [HR.out]
 exact ⟨rfl,B1.out⟩
theorem res_eight (x:List UInt8) (w:World) (hg:GWL w):Calls Tryz.prog 140 #[.int .i64 2,.string ⟨x.toArray⟩] w fun e w'=>e=.returned (.bool (resB 2 x))/\Below w.heap.size w w':=by
 have HL:=LH (fun W (h1:GWL W) g h2 h3=>zof_any eightP eightW g W h1 h2 h3 (by decide) eightP_ok.1 eightP_ok.2.1 eightP_ok.2.2)
 have HR:Hid (resB 2 x=decide (x∈eightW)):=LH (by simp [resB])
 have HH:=LH (fun v W (h:WAt W eightW v)=>has_any eightW x v W h (by decide))
 generalize decide (x∈eightW)=res at *
 have B0:=LH ((Below.refl w.heap.size w).alloc (Nat.le_refl _) (.cells (eightP.map fun l=>Value.string ⟨l.toArray⟩).toArray 9))
 go_enter Tryz.func140, Tryz.ntmps140
 go_wp2_with fail
 refine (HL.out _ (hg.below B0.out) w.heap.size (by simp) (row_cells w eightP _)).mono ?_
 rintro e w1 ⟨v,rfl,hW,hb1⟩
 have HHv:=LH (HH.out v w1 hW)
 obtain ⟨g,n,rfl⟩:=hW.form
 have B1:=LH (bthen B0.out hb1)
 clear HH hb1 hW HL
 go_wp2_with fail
 refine HHv.out.mono ?_
 rintro e w2 ⟨rfl,rfl⟩
 go_wp2_with fail
 go_ret
 rw [HR.out]
 exact ⟨rfl,B1.out⟩
theorem res_any (d:Int) (x:List UInt8) (w:World) (hg:GWL w):Calls Tryz.prog 140 #[.int .i64 d,.string ⟨x.toArray⟩] w fun e w'=>e=.returned (.bool (resB d x))/\Below w.heap.size w w':=by
 by_cases h0:d=0
 ·subst h0;exact res_intel x w hg
 ·by_cases h1:d=1
  ·subst h1;exact res_zilog x w hg
  ·by_cases h2:d=2
   ·subst h2;exact res_eight x w hg
   ·have HR:=LH (show resB d x=false by simp [resB,h0,h1,h2])
    have e0:(d == 0)=false:=by simpa using h0
    have e1:(d == 1)=false:=by simpa using h1
    have e2:(d == 2)=false:=by simpa using h2
    clear h0 h1 h2
    go_enter Tryz.func140, Tryz.ntmps140
    go_wp2_with fail
    go_ret
    rw [HR.out]
    exact ⟨rfl,Below.refl _ _⟩
theorem known_any (d:Int) (w:World):Calls Tryz.prog 28 #[.int .i64 d] w fun e w'=>e=.returned (.bool (knownB d))/\w=w':=by
 have HK:=LH (show knownB d=(decide (0<=d) && decide (d<=2)) from rfl)
 generalize knownB d=k at *
 by_cases h0:0<=d
 ·have h0':decide (0<=d)=true:=decide_eq_true h0
  have HK':=LH (show k=decide (d<=2) by rw [HK.out,h0'];rfl)
  clear h0'
  go_enter Tryz.func28, Tryz.ntmps28
  go_wp2_with fail
  go_ret
  rw [HK'.out]
  exact ⟨rfl,rfl⟩
 ·have h0':decide (0<=d)=false:=decide_eq_false h0
  have HK':=LH (show k=false by rw [HK.out,h0'];rfl)
  clear h0
  go_enter Tryz.func28, Tryz.ntmps28
  go_wp2_with fail
  go_ret
  rw [HK'.out]
  exact ⟨rfl,rfl⟩
theorem one_any (x:List UInt8) (ls:List (List UInt8)) (g n:Nat) (w:World) (hn:n=ls.length) (hl:ls.length<=1000) (hc:∀ j (hj:j<ls.length),w.cell? ⟨g,j,none⟩=some (.string ⟨ls[j].toArray⟩)) :
  Calls Tryz.prog 113 #[.string ⟨x.toArray⟩,.slice (some ⟨g,0,none⟩) n n] w fun e w'=>e=.returned (.bool (decide (x∈ls)))/\w=w':=by
 have HI:=LH (contains_any ls x g n w hn hl hc)
 generalize decide (x∈ls)=res at *
 clear hc hn
 go_enter Tryz.func113, Tryz.ntmps113
 go_wp2_with fail
 refine HI.out.mono ?_
 rintro e w1 ⟨rfl,rfl⟩
 go_wp2_with fail
 go_ret
 exact ⟨rfl,rfl⟩
theorem one_new (x:List UInt8) (ls:List (List UInt8)) (w:World) (hl:ls.length<=1000) (t:TypeId) :
  Calls Tryz.prog 113 #[.string ⟨x.toArray⟩,.slice (some ⟨w.heap.size,0,none⟩) ls.length ls.length] (w.alloc (.cells (ls.map fun l=>Value.string ⟨l.toArray⟩).toArray t)) fun e w'=>e=.returned (.bool (decide (x∈ls)))/\w.alloc (.cells (ls.map fun l=>Value.string ⟨l.toArray⟩).toArray t)=w':=
 one_any x ls w.heap.size _ _ rfl hl (row_cells w ls t)
theorem sets_any (x:List UInt8) (w:World):Calls Tryz.prog 66 #[.string ⟨x.toArray⟩] w fun e w'=>e=.returned (.bool (setsB x))/\Below w.heap.size w w':=by
 have HO:=LH (one_new x [sEQU,sSET] w (by decide) 9)
 have HS:Hid (setsB x=decide (x∈[sEQU,sSET])):=LH rfl
 generalize decide (x∈[sEQU,sSET])=res at *
 go_enter Tryz.func66, Tryz.ntmps66
 go_wp2_with fail
 refine HO.out.mono ?_
 rintro e w1 ⟨rfl,rfl⟩
 go_wp2_with fail
 go_ret
 rw [HS.out]
 exact ⟨rfl,(Below.refl _ _).alloc (Nat.le_refl _) _⟩
theorem great_any (x:List UInt8) (w:World) (hl:x.length<=1000000):Calls Tryz.prog 100 #[.string ⟨x.toArray⟩] w fun e w'=>e=.returned (.bool (greatB x))/\Below w.heap.size w w':=by
 have HN:=LH (name_any x w hl)
 have HU:=LH (upper_any x w hl)
 have HG:Hid (greatB x=(nameB x && upper x == x)):=LH rfl
 generalize greatB x=res at *
 generalize upper x=u at *
 cases hn:nameB x with
 | true=>
  have HG':Hid (res=(u == x)):=LH (by rw [HG.out,hn];rfl)
  rw [hn] at HN
  clear hn HG
  go_enter Tryz.func100, Tryz.ntmps100
  go_wp2_with fail
  refine HN.out.mono ?_
  rintro e w1 ⟨rfl,rfl⟩
  go_wp2_with fail
  refine HU.out.mono ?_
  rintro e w1 ⟨rfl,hb1⟩
  go_wp2_with fail
  go_ret
  rw [HG'.out]
  exact ⟨by first | rfl | simp,hb1⟩
 | false=>
  have HG':Hid (res=false):=LH (by rw [HG.out,hn];rfl)
  rw [hn] at HN
  clear hn HG
  go_enter Tryz.func100, Tryz.ntmps100
  go_wp2_with fail
  refine HN.out.mono ?_
  rintro e w1 ⟨rfl,rfl⟩
  go_wp2_with fail
  go_ret
  rw [HG'.out]
  exact ⟨rfl,Below.refl _ _⟩
theorem Plain_any (d:Int) (x:List UInt8) (w:World) (hl:x.length<=1000000) (hg:GWL w):Calls Tryz.prog 99 #[.int .i64 d,.string ⟨x.toArray⟩] w fun e w'=>e=.returned (.bool (plainB d x))/\Below w.heap.size w w':=by
 have HN:=LH (great_any x w hl)
 have HR:=LH (fun W (hW:GWL W)=>res_any d x W hW)
 have HS:=LH (fun W=>sets_any x W)
 have HG:Hid (plainB d x=(greatB x && !resB d x && !setsB x)):=LH rfl
 generalize plainB d x=res at *
 cases h1:greatB x with
 | false=>
  have HG':Hid (res=false):=LH (by rw [HG.out,h1];rfl)
  rw [h1] at HN
  clear h1 HG
  go_enter Tryz.func99, Tryz.ntmps99
  go_wp2_with fail
  refine HN.out.mono ?_
  rintro e w1 ⟨rfl,hb1⟩
  go_wp2_with fail
  go_ret
  rw [HG'.out]
  exact ⟨rfl,hb1⟩
 | true=>
  rw [h1] at HN
  cases h2:resB d x with
  | true=>
   have HG':Hid (res=false):=LH (by rw [HG.out,h1,h2];rfl)
   rw [h2] at HR
   clear h1 h2 HG
   go_enter Tryz.func99, Tryz.ntmps99
   go_wp2_with fail
   refine HN.out.mono ?_
   rintro e w1 ⟨rfl,hb1⟩
   go_wp2_with fail
   refine (HR.out _ (hg.below hb1)).mono ?_
   rintro e w2 ⟨rfl,hb2⟩
   go_wp2_with fail
   go_ret
   rw [HG'.out]
   exact ⟨rfl,bthen hb1 hb2⟩
  | false=>
   rw [h2] at HR
   have HG':Hid (res = !setsB x):=LH (by rw [HG.out,h1,h2];rfl)
   clear h1 h2 HG
   generalize setsB x=sb at *
   go_enter Tryz.func99, Tryz.ntmps99
   go_wp2_with fail
   refine HN.out.mono ?_
   rintro e w1 ⟨rfl,hb1⟩
   go_wp2_with fail
   refine (HR.out _ (hg.below hb1)).mono ?_
   rintro e w2 ⟨rfl,hb2⟩
   go_wp2_with fail
   refine (HS.out _).mono ?_
   rintro e w3 ⟨rfl,hb3⟩
   go_wp2_with fail
   go_ret
   rw [HG'.out]
   exact ⟨rfl,bthen (bthen hb1 hb2) hb3⟩
theorem word12_any (d:Int) (x:List UInt8) (w:World) (hg:GWL w):Calls Tryz.prog 115 #[.int .i64 d,.string ⟨x.toArray⟩] w fun e w'=>e=.returned (.bool (wordB d x))/\Below w.heap.size w w':=by
 have HZ:=LH (fun W=>one_new x memZ W (by decide) 9)
 have H8:=LH (fun W=>one_new x mem8 W (by decide) 9)
 have HO:=LH (fun W=>one_new x opW W (by decide) 9)
 have HR:=LH (fun W (hW:GWL W)=>res_any d x W hW)
 have HG:Hid (wordB d x=((decide (d=1) && decide (x∈memZ)) || (decide (d=2) && decide (x∈mem8)) || (resB d x && !decide (x∈opW)))):=LH rfl
 generalize wordB d x=res at *
 generalize decide (x∈memZ)=z at *
 generalize decide (x∈mem8)=z8 at *
 generalize decide (x∈opW)=zo at *
 generalize resB d x=r at *
 have key:(d=1/\z=true)∨(d=1/\z=false)∨(d=2/\z8=true)∨(d=2/\z8=false)∨(d≠1/\d≠2):=by
  by_cases h1:d=1
  ·cases z <;> simp [h1]
  ·by_cases h2:d=2
   ·cases z8 <;> simp [h2]
   ·simp [h1,h2]
 rcases key with ⟨rfl,rfl⟩ | ⟨rfl,rfl⟩ | ⟨rfl,rfl⟩ | ⟨rfl,rfl⟩ | ⟨h1,h2⟩
 ·have HG':=LH (show res=true by rw [HG.out];rfl)
  go_enter Tryz.func115, Tryz.ntmps115
  go_wp2_with fail
  refine (HZ.out _).mono ?_
  rintro e w1 ⟨rfl,rfl⟩
  go_wp2_with fail
  go_ret
  rw [HG'.out]
  exact ⟨rfl,(Below.refl _ _).alloc (Nat.le_refl _) _⟩
 ·have HG':=LH (show res=(r && !zo) by rw [HG.out];simp)
  have hgw:=hg.below ((Below.refl w.heap.size w).alloc (Nat.le_refl _) (.cells (memZ.map fun l=>Value.string ⟨l.toArray⟩).toArray 9))
  clear HG
  cases r with
  | true=>
   have HG2:=LH (show res = !zo by rw [HG'.out];rfl)
   go_enter Tryz.func115, Tryz.ntmps115
   go_wp2_with fail
   refine (HZ.out _).mono ?_
   rintro e w1 ⟨rfl,rfl⟩
   go_wp2_with fail
   refine (HR.out _ hgw).mono ?_
   rintro e w1 ⟨rfl,hb1⟩
   go_wp2_with fail
   refine (HO.out _).mono ?_
   rintro e w2 ⟨rfl,rfl⟩
   go_wp2_with fail
   go_ret
   rw [HG2.out]
   exact ⟨rfl,(bthen ((Below.refl _ _).alloc (Nat.le_refl _) _) hb1).alloc (bthen ((Below.refl _ _).alloc (Nat.le_refl _) _) hb1).size _⟩
  | false=>
   have HG2:=LH (show res=false by rw [HG'.out];rfl)
   go_enter Tryz.func115, Tryz.ntmps115
   go_wp2_with fail
   refine (HZ.out _).mono ?_
   rintro e w1 ⟨rfl,rfl⟩
   go_wp2_with fail
   refine (HR.out _ hgw).mono ?_
   rintro e w1 ⟨rfl,hb1⟩
   go_wp2_with fail
   go_ret
   rw [HG2.out]
   exact ⟨rfl,bthen ((Below.refl _ _).alloc (Nat.le_refl _) _) hb1⟩
 ·have HG':=LH (show res=true by rw [HG.out];rfl)
  go_enter Tryz.func115, Tryz.ntmps115
  go_wp2_with fail
  refine (H8.out _).mono ?_
  rintro e w1 ⟨rfl,rfl⟩
  go_wp2_with fail
  go_ret
  rw [HG'.out]
  exact ⟨rfl,(Below.refl _ _).alloc (Nat.le_refl _) _⟩
 ·have HG':=LH (show res=(r && !zo) by rw [HG.out];simp)
  have hgw:=hg.below ((Below.refl w.heap.size w).alloc (Nat.le_refl _) (.cells (mem8.map fun l=>Value.string ⟨l.toArray⟩).toArray 9))
  clear HG
  cases r with
  | true=>
   have HG2:=LH (show res = !zo by rw [HG'.out];rfl)
   go_enter Tryz.func115, Tryz.ntmps115
   go_wp2_with fail
   refine (H8.out _).mono ?_
   rintro e w1 ⟨rfl,rfl⟩
   go_wp2_with fail
   refine (HR.out _ hgw).mono ?_
   rintro e w1 ⟨rfl,hb1⟩
   go_wp2_with fail
   refine (HO.out _).mono ?_
   rintro e w2 ⟨rfl,rfl⟩
   go_wp2_with fail
   go_ret
   rw [HG2.out]
   exact ⟨rfl,(bthen ((Below.refl _ _).alloc (Nat.le_refl _) _) hb1).alloc (bthen ((Below.refl _ _).alloc (Nat.le_refl _) _) hb1).size _⟩
  | false=>
   have HG2:=LH (show res=false by rw [HG'.out];rfl)
   go_enter Tryz.func115, Tryz.ntmps115
   go_wp2_with fail
   refine (H8.out _).mono ?_
   rintro e w1 ⟨rfl,rfl⟩
   go_wp2_with fail
   refine (HR.out _ hgw).mono ?_
   rintro e w1 ⟨rfl,hb1⟩
   go_wp2_with fail
   go_ret
   rw [HG2.out]
   exact ⟨rfl,bthen ((Below.refl _ _).alloc (Nat.le_refl _) _) hb1⟩
 ·have HG':=LH (show res=(r && !zo) by rw [HG.out];simp [h1,h2])
  have e1:(d == 1)=false:=by simpa using h1
  have e2:(d == 2)=false:=by simpa using h2
  clear HG h1 h2
  cases r with
  | true=>
   have HG2:=LH (show res = !zo by rw [HG'.out];rfl)
   go_enter Tryz.func115, Tryz.ntmps115
   go_wp2_with fail
   refine (HR.out _ hg).mono ?_
   rintro e w1 ⟨rfl,hb1⟩
   go_wp2_with fail
   refine (HO.out _).mono ?_
   rintro e w2 ⟨rfl,rfl⟩
   go_wp2_with fail
   go_ret
   rw [HG2.out]
   exact ⟨rfl,hb1.alloc hb1.size _⟩
  | false=>
   have HG2:=LH (show res=false by rw [HG'.out];rfl)
   go_enter Tryz.func115, Tryz.ntmps115
   go_wp2_with fail
   refine (HR.out _ hg).mono ?_
   rintro e w1 ⟨rfl,hb1⟩
   go_wp2_with fail
   go_ret
   rw [HG2.out]
   exact ⟨rfl,hb1⟩
end Go.Proofs.YtbdnbfacalfciaaGreatDoor
