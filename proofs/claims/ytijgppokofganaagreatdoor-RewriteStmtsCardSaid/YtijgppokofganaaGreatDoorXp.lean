/- Xp. -/
import Derived.Test.YtijgppokofganaaGreatDoorUa
import Derived.Test.YtijgppokofganaaGreatDoorUb
import Derived.Test.YtijgppokofganaaGreatDoorKd
import Derived.Test.YtijgppokofganaaGreatDoorKa
import Derived.Test.YtijgppokofganaaGreatDoorKn
import Derived.Test.YtijgppokofganaaGreatDoorKe
import Derived.Test.YtijgppokofganaaGreatDoorKm
import Derived.Test.YtijgppokofganaaGreatDoorLaw5a
import Derived.Test.YtijgppokofganaaGreatDoorKg
import Derived.Deep.QuietTactic
import Derived.BigQuiet
namespace Go.Proofs.YtijgppokofganaaGreatDoor
set_option maxRecDepth 100000
set_option maxHeartbeats 4000000
def forms06:List (List UInt8):=[[78,79,80],[76,88,73,32,66,32,100,49,54],[83,84,65,88,32,66],[73,78,88,32,66],[73,78,82,32,66],[68,67,82,32,66],[77,86,73,32,66,32,100,56],[82,76,67],[],[68,65,68,32,66],[76,68,65,88,32,66],[68,67,88,32,66],[73,78,82,32,67],[68,67,82,32,67],[77,86,73,32,67,32,100,56],[82,82,67],[],[76,88,73,32,68,32,100,49,54],[83,84,65,88,32,68],[73,78,88,32,68],[73,78,82,32,68],[68,67,82,32,68],[77,86,73,32,68,32,100,56],[82,65,76],[],[68,65,68,32,68],[76,68,65,88,32,68],[68,67,88,32,68],[73,78,82,32,69],[68,67,82,32,69],[77,86,73,32,69,32,100,56],[82,65,82],[],[76,88,73,32,72,32,100,49,54],[83,72,76,68,32,100,49,54],[73,78,88,32,72],[73,78,82,32,72],[68,67,82,32,72],[77,86,73,32,72,32,100,56],[68,65,65],[],[68,65,68,32,72],[76,72,76,68,32,100,49,54],[68,67,88,32,72],[73,78,82,32,76],[68,67,82,32,76],[77,86,73,32,76,32,100,56],[67,77,65],[],[76,88,73,32,83,80,32,100,49,54],[83,84,65,32,100,49,54],[73,78,88,32,83,80],[73,78,82,32,77],[68,67,82,32,77],[77,86,73,32,77,32,100,56],[83,84,67],[],[68,65,68,32,83,80],[76,68,65,32,100,49,54],[68,67,88,32,83,80],[73,78,82,32,65],[68,67,82,32,65],[77,86,73,32,65,32,100,56],[67,77,67],[77,79,86,32,66,32,66],[77,79,86,32,66,32,67],[77,79,86,32,66,32,68],[77,79,86,32,66,32,69],[77,79,86,32,66,32,72],[77,79,86,32,66,32,76],[77,79,86,32,66,32,77],[77,79,86,32,66,32,65],[77,79,86,32,67,32,66],[77,79,86,32,67,32,67],[77,79,86,32,67,32,68],[77,79,86,32,67,32,69],[77,79,86,32,67,32,72],[77,79,86,32,67,32,76],[77,79,86,32,67,32,77],[77,79,86,32,67,32,65],[77,79,86,32,68,32,66],[77,79,86,32,68,32,67],[77,79,86,32,68,32,68],[77,79,86,32,68,32,69],[77,79,86,32,68,32,72],[77,79,86,32,68,32,76],[77,79,86,32,68,32,77],[77,79,86,32,68,32,65],[77,79,86,32,69,32,66],[77,79,86,32,69,32,67],[77,79,86,32,69,32,68],[77,79,86,32,69,32,69],[77,79,86,32,69,32,72],[77,79,86,32,69,32,76],[77,79,86,32,69,32,77],[77,79,86,32,69,32,65],[77,79,86,32,72,32,66],[77,79,86,32,72,32,67],[77,79,86,32,72,32,68],[77,79,86,32,72,32,69],[77,79,86,32,72,32,72],[77,79,86,32,72,32,76],[77,79,86,32,72,32,77],[77,79,86,32,72,32,65],[77,79,86,32,76,32,66],[77,79,86,32,76,32,67],[77,79,86,32,76,32,68],[77,79,86,32,76,32,69],[77,79,86,32,76,32,72],[77,79,86,32,76,32,76],[77,79,86,32,76,32,77],[77,79,86,32,76,32,65],[77,79,86,32,77,32,66],[77,79,86,32,77,32,67],[77,79,86,32,77,32,68],[77,79,86,32,77,32,69],[77,79,86,32,77,32,72],[77,79,86,32,77,32,76],[72,76,84],[77,79,86,32,77,32,65],[77,79,86,32,65,32,66],[77,79,86,32,65,32,67],[77,79,86,32,65,32,68],[77,79,86,32,65,32,69],[77,79,86,32,65,32,72],[77,79,86,32,65,32,76],[77,79,86,32,65,32,77],[77,79,86,32,65,32,65],[65,68,68,32,66],[65,68,68,32,67],[65,68,68,32,68],[65,68,68,32,69],[65,68,68,32,72],[65,68,68,32,76],[65,68,68,32,77],[65,68,68,32,65],[65,68,67,32,66],[65,68,67,32,67],[65,68,67,32,68],[65,68,67,32,69],[65,68,67,32,72],[65,68,67,32,76],[65,68,67,32,77],[65,68,67,32,65],[83,85,66,32,66],[83,85,66,32,67],[83,85,66,32,68],[83,85,66,32,69],[83,85,66,32,72],[83,85,66,32,76],[83,85,66,32,77],[83,85,66,32,65],[83,66,66,32,66],[83,66,66,32,67],[83,66,66,32,68],[83,66,66,32,69],[83,66,66,32,72],[83,66,66,32,76],[83,66,66,32,77],[83,66,66,32,65],[65,78,65,32,66],[65,78,65,32,67],[65,78,65,32,68],[65,78,65,32,69],[65,78,65,32,72],[65,78,65,32,76],[65,78,65,32,77],[65,78,65,32,65],[88,82,65,32,66],[88,82,65,32,67],[88,82,65,32,68],[88,82,65,32,69],[88,82,65,32,72],[88,82,65,32,76],[88,82,65,32,77],[88,82,65,32,65],[79,82,65,32,66],[79,82,65,32,67],[79,82,65,32,68],[79,82,65,32,69],[79,82,65,32,72],[79,82,65,32,76],[79,82,65,32,77],[79,82,65,32,65],[67,77,80,32,66],[67,77,80,32,67],[67,77,80,32,68],[67,77,80,32,69],[67,77,80,32,72],[67,77,80,32,76],[67,77,80,32,77],[67,77,80,32,65],[82,78,90],[80,79,80,32,66],[74,78,90,32,100,49,54],[74,77,80,32,100,49,54],[67,78,90,32,100,49,54],[80,85,83,72,32,66],[65,68,73,32,100,56],[82,83,84,32,48],[82,90],[82,69,84],[74,90,32,100,49,54],[],[67,90,32,100,49,54],[67,65,76,76,32,100,49,54],[65,67,73,32,100,56],[82,83,84,32,49],[82,78,67],[80,79,80,32,68],[74,78,67,32,100,49,54],[79,85,84,32,100,56],[67,78,67,32,100,49,54],[80,85,83,72,32,68],[83,85,73,32,100,56],[82,83,84,32,50],[82,67],[],[74,67,32,100,49,54],[73,78,32,100,56],[67,67,32,100,49,54],[],[83,66,73,32,100,56],[82,83,84,32,51],[82,80,79],[80,79,80,32,72],[74,80,79,32,100,49,54],[88,84,72,76],[67,80,79,32,100,49,54],[80,85,83,72,32,72],[65,78,73,32,100,56],[82,83,84,32,52],[82,80,69],[80,67,72,76],[74,80,69,32,100,49,54],[88,67,72,71],[67,80,69,32,100,49,54],[],[88,82,73,32,100,56],[82,83,84,32,53],[82,80],[80,79,80,32,80,83,87],[74,80,32,100,49,54],[68,73],[67,80,32,100,49,54],[80,85,83,72,32,80,83,87],[79,82,73,32,100,56],[82,83,84,32,54],[82,77],[83,80,72,76],[74,77,32,100,49,54],[69,73],[67,77,32,100,49,54],[],[67,80,73,32,100,56],[82,83,84,32,55]]
def forms07:List (List UInt8):=[[78,79,80],[76,68,32,66,67,32,110,110],[76,68,32,40,66,67,41,32,65],[73,78,67,32,66,67],[73,78,67,32,66],[68,69,67,32,66],[76,68,32,66,32,110],[82,76,67,65],[],[65,68,68,32,72,76,32,66,67],[76,68,32,65,32,40,66,67,41],[68,69,67,32,66,67],[73,78,67,32,67],[68,69,67,32,67],[76,68,32,67,32,110],[82,82,67,65],[],[76,68,32,68,69,32,110,110],[76,68,32,40,68,69,41,32,65],[73,78,67,32,68,69],[73,78,67,32,68],[68,69,67,32,68],[76,68,32,68,32,110],[82,76,65],[],[65,68,68,32,72,76,32,68,69],[76,68,32,65,32,40,68,69,41],[68,69,67,32,68,69],[73,78,67,32,69],[68,69,67,32,69],[76,68,32,69,32,110],[82,82,65],[],[76,68,32,72,76,32,110,110],[76,68,32,40,110,110,41,32,72,76],[73,78,67,32,72,76],[73,78,67,32,72],[68,69,67,32,72],[76,68,32,72,32,110],[68,65,65],[],[65,68,68,32,72,76,32,72,76],[76,68,32,72,76,32,40,110,110,41],[68,69,67,32,72,76],[73,78,67,32,76],[68,69,67,32,76],[76,68,32,76,32,110],[67,80,76],[],[76,68,32,83,80,32,110,110],[76,68,32,40,110,110,41,32,65],[73,78,67,32,83,80],[73,78,67,32,40,72,76,41],[68,69,67,32,40,72,76,41],[76,68,32,40,72,76,41,32,110],[83,67,70],[],[65,68,68,32,72,76,32,83,80],[76,68,32,65,32,40,110,110,41],[68,69,67,32,83,80],[73,78,67,32,65],[68,69,67,32,65],[76,68,32,65,32,110],[67,67,70],[76,68,32,66,32,66],[76,68,32,66,32,67],[76,68,32,66,32,68],[76,68,32,66,32,69],[76,68,32,66,32,72],[76,68,32,66,32,76],[76,68,32,66,32,40,72,76,41],[76,68,32,66,32,65],[76,68,32,67,32,66],[76,68,32,67,32,67],[76,68,32,67,32,68],[76,68,32,67,32,69],[76,68,32,67,32,72],[76,68,32,67,32,76],[76,68,32,67,32,40,72,76,41],[76,68,32,67,32,65],[76,68,32,68,32,66],[76,68,32,68,32,67],[76,68,32,68,32,68],[76,68,32,68,32,69],[76,68,32,68,32,72],[76,68,32,68,32,76],[76,68,32,68,32,40,72,76,41],[76,68,32,68,32,65],[76,68,32,69,32,66],[76,68,32,69,32,67],[76,68,32,69,32,68],[76,68,32,69,32,69],[76,68,32,69,32,72],[76,68,32,69,32,76],[76,68,32,69,32,40,72,76,41],[76,68,32,69,32,65],[76,68,32,72,32,66],[76,68,32,72,32,67],[76,68,32,72,32,68],[76,68,32,72,32,69],[76,68,32,72,32,72],[76,68,32,72,32,76],[76,68,32,72,32,40,72,76,41],[76,68,32,72,32,65],[76,68,32,76,32,66],[76,68,32,76,32,67],[76,68,32,76,32,68],[76,68,32,76,32,69],[76,68,32,76,32,72],[76,68,32,76,32,76],[76,68,32,76,32,40,72,76,41],[76,68,32,76,32,65],[76,68,32,40,72,76,41,32,66],[76,68,32,40,72,76,41,32,67],[76,68,32,40,72,76,41,32,68],[76,68,32,40,72,76,41,32,69],[76,68,32,40,72,76,41,32,72],[76,68,32,40,72,76,41,32,76],[72,65,76,84],[76,68,32,40,72,76,41,32,65],[76,68,32,65,32,66],[76,68,32,65,32,67],[76,68,32,65,32,68],[76,68,32,65,32,69],[76,68,32,65,32,72],[76,68,32,65,32,76],[76,68,32,65,32,40,72,76,41],[76,68,32,65,32,65],[65,68,68,32,65,32,66],[65,68,68,32,65,32,67],[65,68,68,32,65,32,68],[65,68,68,32,65,32,69],[65,68,68,32,65,32,72],[65,68,68,32,65,32,76],[65,68,68,32,65,32,40,72,76,41],[65,68,68,32,65,32,65],[65,68,67,32,65,32,66],[65,68,67,32,65,32,67],[65,68,67,32,65,32,68],[65,68,67,32,65,32,69],[65,68,67,32,65,32,72],[65,68,67,32,65,32,76],[65,68,67,32,65,32,40,72,76,41],[65,68,67,32,65,32,65],[83,85,66,32,66],[83,85,66,32,67],[83,85,66,32,68],[83,85,66,32,69],[83,85,66,32,72],[83,85,66,32,76],[83,85,66,32,40,72,76,41],[83,85,66,32,65],[83,66,67,32,65,32,66],[83,66,67,32,65,32,67],[83,66,67,32,65,32,68],[83,66,67,32,65,32,69],[83,66,67,32,65,32,72],[83,66,67,32,65,32,76],[83,66,67,32,65,32,40,72,76,41],[83,66,67,32,65,32,65],[65,78,68,32,66],[65,78,68,32,67],[65,78,68,32,68],[65,78,68,32,69],[65,78,68,32,72],[65,78,68,32,76],[65,78,68,32,40,72,76,41],[65,78,68,32,65],[88,79,82,32,66],[88,79,82,32,67],[88,79,82,32,68],[88,79,82,32,69],[88,79,82,32,72],[88,79,82,32,76],[88,79,82,32,40,72,76,41],[88,79,82,32,65],[79,82,32,66],[79,82,32,67],[79,82,32,68],[79,82,32,69],[79,82,32,72],[79,82,32,76],[79,82,32,40,72,76,41],[79,82,32,65],[67,80,32,66],[67,80,32,67],[67,80,32,68],[67,80,32,69],[67,80,32,72],[67,80,32,76],[67,80,32,40,72,76,41],[67,80,32,65],[82,69,84,32,78,90],[80,79,80,32,66,67],[74,80,32,78,90,32,110,110],[74,80,32,110,110],[67,65,76,76,32,78,90,32,110,110],[80,85,83,72,32,66,67],[65,68,68,32,65,32,110],[82,83,84,32,48],[82,69,84,32,90],[82,69,84],[74,80,32,90,32,110,110],[],[67,65,76,76,32,90,32,110,110],[67,65,76,76,32,110,110],[65,68,67,32,65,32,110],[82,83,84,32,56],[82,69,84,32,78,67],[80,79,80,32,68,69],[74,80,32,78,67,32,110,110],[79,85,84,32,40,110,41,32,65],[67,65,76,76,32,78,67,32,110,110],[80,85,83,72,32,68,69],[83,85,66,32,110],[82,83,84,32,49,54],[82,69,84,32,67],[],[74,80,32,67,32,110,110],[73,78,32,65,32,40,110,41],[67,65,76,76,32,67,32,110,110],[],[83,66,67,32,65,32,110],[82,83,84,32,50,52],[82,69,84,32,80,79],[80,79,80,32,72,76],[74,80,32,80,79,32,110,110],[69,88,32,40,83,80,41,32,72,76],[67,65,76,76,32,80,79,32,110,110],[80,85,83,72,32,72,76],[65,78,68,32,110],[82,83,84,32,51,50],[82,69,84,32,80,69],[74,80,32,40,72,76,41],[74,80,32,80,69,32,110,110],[69,88,32,68,69,32,72,76],[67,65,76,76,32,80,69,32,110,110],[],[88,79,82,32,110],[82,83,84,32,52,48],[82,69,84,32,80],[80,79,80,32,65,70],[74,80,32,80,32,110,110],[68,73],[67,65,76,76,32,80,32,110,110],[80,85,83,72,32,65,70],[79,82,32,110],[82,83,84,32,52,56],[82,69,84,32,77],[76,68,32,83,80,32,72,76],[74,80,32,77,32,110,110],[69,73],[67,65,76,76,32,77,32,110,110],[],[67,80,32,110],[82,83,84,32,53,54]]
def wordsF:List UInt8->List UInt8->List (List UInt8)->List (List UInt8)
 | [],w,acc=>if w = [] then acc else acc++[w]
 | c :: r,w,acc=>if c=32 then wordsF r [] (acc++[w]) else wordsF r (w++[c]) acc
def wordsR (s:List UInt8):List (List UInt8):=wordsF s [] []
theorem forms06_len:forms06.length=256:=by decide +kernel
theorem forms07_len:forms07.length=256:=by decide +kernel
theorem forms06_words:∀ k:Fin 256,wordsR (forms06.getD k.val [])=words80 k.val:=by decide +kernel
theorem forms07_words:∀ k:Fin 256,wordsR (forms07.getD k.val [])=zform k.val:=by decide +kernel
theorem forms06_short:∀ s∈forms06,s.length<=20:=by decide +kernel
theorem forms07_short:∀ s∈forms07,s.length<=20:=by decide +kernel
open Go.RowKit
def WordsP (w:World) (ws:List (List UInt8)) (e:Ending) (w':World):Prop:=∃ v,e=.returned v/\w'.ownsRow w.heap.size 9 1 v ws.length (ws.map strV)/\Below w.heap.size w w'
theorem strV_snoc (ws:List (List UInt8)) (x:List UInt8):(ws++[x]).map strV=ws.map strV++[strV x]:=by simp
theorem words6_any (s:List UInt8) (w:World) (hl:s.length<=1000):Calls Tryz.prog 63 #[.string ⟨s.toArray⟩] w (WordsP w (wordsR s)):=by
 generalize hres:wordsR s=res
 have HRES:=LH hres
 clear hres
 go_enter Tryz.func63, Tryz.ntmps63
 go_wp2_with fail
 go_loopw [3,4,5] (fun v c i wr=>∃ (k:Nat) (acc:List (List UInt8)) (cur:List UInt8),k<=s.length/\i=.int .i64 k/\c=Sx cur/\wr.ownsRow w.heap.size 9 1 v acc.length (acc.map strV)/\acc.length<=k/\cur.length<=k/\wordsF (s.drop k) cur acc=res/\Below w.heap.size w wr) (fun _ _ i _=>s.length - (intOf i).toNat)
 case atStart=>exact ⟨0,[],[],Nat.zero_le _,rfl,rfl,World.ownsRow_nil _ _ _ _,Nat.le_refl _,Nat.le_refl _,HRES.out,Below.refl _ _⟩
 case round=>
  obtain ⟨k,acc,cur,hk,rfl,rfl,hown,hal,hcl,hw,hbw⟩:=hrel
  obtain ⟨vA,vc,rfl,hvc,hvm,_⟩:=own_slice hown (by omega)
  have OW:=LH hown
  have BW:=LH hbw
  have HW:=LH hw
  have hsz:=hbw.size
  clear hown hbw hw hvm
  by_cases hlt:k<s.length
  ·have HD:Hid (s.drop k=s[k] :: s.drop (k+1)):=LH (List.drop_eq_getElem_cons hlt)
   have HT:Hid ((s.take (k+1)).drop k = [s[k]]):=LH (by rw [List.drop_take,show k+1 - k=1 by omega,List.drop_eq_getElem_cons hlt];rfl)
   by_cases hx:s[k]=32
   ·have HN:Hid (wordsF (s.drop (k+1)) [] (acc++[cur])=res):=LH (by have h:=HW.out;rw [HD.out,wordsF,if_pos hx] at h;exact h)
    clear HD HT HW
    go_wp2_with (at_builtin;refine wpList_append_at wr wr.heap.size rfl rfl _ _ 53 rfl w.heap.size 9 _ 1 16 Tryz.underlying53 info_str rfl (by decide) OW.out rfl [strV cur] 9 rfl rfl (one_str _) (by omega) (by omega) hsz ?_;intro v5 w5 hown5 hb5)
    go_wp2_with fail
    go_roundw
    case rel=>exact ⟨k+1,acc++[cur],[],by omega,by go_num,rfl,by rw [strV_snoc,List.length_append];exact hown5,by simp;omega,by simp,HN.out,BW.out.trans hb5⟩
    case measure=>simp [intOf];omega
   ·have HN:Hid (wordsF (s.drop (k+1)) (cur++[s[k]]) acc=res):=LH (by have h:=HW.out;rw [HD.out,wordsF,if_neg hx] at h;exact h)
    have e1:(((s[k].toNat:Nat):Int) == 32)=false:=by
     rw [beq_eq_false_iff_ne]
     intro h
     exact hx (UInt8.toNat_inj.1 (by simpa using (by omega:s[k].toNat=32)))
    have hT2:=HT.out
    have e2:(k:Int)+1<=(s.length:Int):=by omega
    have e3:k+1<=s.length:=by omega
    clear HD HT HW hx
    go_wp2_with fail
    go_roundw
    case rel=>exact ⟨k+1,acc,cur++[s[k]],by omega,by go_num,by first | rfl | (rw [hT2]) | simp [hT2],OW.out,by omega,by simp;omega,HN.out,BW.out⟩
    case measure=>simp [intOf];omega
  ·obtain rfl:k=s.length:=by omega
   rw [List.drop_length] at HW
   by_cases hc:cur = []
   ·subst hc
    have HN:Hid (acc=res):=LH (by have h:=HW.out;rw [wordsF,if_pos rfl] at h;exact h)
    clear HW
    go_wp2_with fail
    go_ret
    obtain rfl:=HN.out
    exact ⟨_,rfl,OW.out,BW.out⟩
   ·have HN:Hid (acc++[cur]=res):=LH (by have h:=HW.out;rw [wordsF,if_neg hc] at h;exact h)
    have hc1:=str_ne hc
    clear HW hc
    go_wp2_with (at_builtin;refine wpList_append_at wr wr.heap.size rfl rfl _ _ 53 rfl w.heap.size 9 _ 1 16 Tryz.underlying53 info_str rfl (by decide) OW.out rfl [strV cur] 9 rfl rfl (one_str _) (by omega) (by omega) hsz ?_;intro v5 w5 hown5 hb5)
    go_wp2_with fail
    go_ret
    obtain rfl:=HN.out
    exact ⟨_,rfl,by rw [strV_snoc,List.length_append];exact hown5,BW.out.trans hb5⟩
theorem rd_first {w:World} {B c:Nat} {A:Option Addr} {x:List UInt8} {r:List (List UInt8)} (h:Rd w B (.slice A (r.length+1) c) (r.length+1) ((x :: r).map strV)) :
  ∃ g o,A=some ⟨g,o,none⟩/\g<B/\w.cell? ⟨g,o,none⟩=some (.string ⟨x.toArray⟩)/\∀ (A':Option Addr) (c':Nat),(0<r.length->A'=some ⟨g,o+1,none⟩)->r.length<=c'->Rd w B (.slice A' r.length c') r.length (r.map strV):=by
 obtain ⟨A',c',h1,h2,h3⟩:=h
 injection h1 with h1 _ _
 subst h1
 obtain ⟨g,o,h4,h5,h6⟩:=h3 (by omega)
 refine ⟨g,o,h4,h5,h6 0 (strV x) (by simp),fun A' c' hA hc=>⟨A',c',rfl,hc,fun h0=>⟨g,o+1,hA h0,h5,fun j u hu=>?_⟩⟩⟩
 rw [show o+1+j=o+(j+1) by omega]
 exact h6 (j+1) u (by simpa using hu)
theorem wpList_run_val {P:Program} {ops:Array Oper} {rest:List Oper} {o:Oper} {a:Act} {Q:Exit->Act->World->Prop} {w:World} (hg:o.guard=none) (v:Value) (w':World) (h:(execOp a.eval o).run P w=.ok (.value v) w')
  (hk:wpList P ops Q rest (a.put o.dst v) w'):wpList P ops Q (o :: rest) a w:=
 wpList_plain hg fun K hK=>by unfold Oper.wp;rw [h];exact hK _ _ hk
theorem getD_at (l:List (List UInt8)) (k:Nat) (h:k<l.length):l.getD k []=l[k]:=by simp [h]
theorem forms6_any (w:World):Calls Tryz.prog 61 #[] w fun e w'=>∃ v,e=.returned v/\WAt w' forms06 v/\Below w.heap.size w w':=by
 go_enter Tryz.func61, Tryz.ntmps61
 go_wp2_with (refine wpList_run_val rfl (.slice (some ⟨w.heap.size,0,none⟩) 256 256) (w.alloc (.cells (forms06.map fun l=>Value.string ⟨l.toArray⟩).toArray 9)) (by kernel_rfl) ?_)
 go_ret
 exact ⟨_,rfl,fields_laid w forms06,bra _ _⟩
theorem formw6_any (op:Nat) (h:op<256) (w:World):Calls Tryz.prog 63 #[.string ⟨(forms06.getD op []).toArray⟩] w (WordsP w (words80 op)):=by
 have h1:=words6_any (forms06.getD op []) w (by
  rw [getD_at _ _ (by rw [forms06_len];exact h)]
  have:=forms06_short _ (List.getElem_mem (l:=forms06) (n:=op) (by rw [forms06_len];exact h))
  omega)
 rwa [forms06_words ⟨op,h⟩] at h1
theorem forms7_any (w:World):Calls Tryz.prog 62 #[] w fun e w'=>∃ v,e=.returned v/\WAt w' forms07 v/\Below w.heap.size w w':=by
 go_enter Tryz.func62, Tryz.ntmps62
 go_wp2_with (refine wpList_run_val rfl (.slice (some ⟨w.heap.size,0,none⟩) 256 256) (w.alloc (.cells (forms07.map fun l=>Value.string ⟨l.toArray⟩).toArray 9)) (by kernel_rfl) ?_)
 go_ret
 exact ⟨_,rfl,fields_laid w forms07,bra _ _⟩
theorem formw7_any (op:Nat) (h:op<256) (w:World):Calls Tryz.prog 63 #[.string ⟨(forms07.getD op []).toArray⟩] w (WordsP w (zform op)):=by
 have h1:=words6_any (forms07.getD op []) w (by
  rw [getD_at _ _ (by rw [forms07_len];exact h)]
  have:=forms07_short _ (List.getElem_mem (l:=forms07) (n:=op) (by rw [forms07_len];exact h))
  omega)
 rwa [forms07_words ⟨op,h⟩] at h1
theorem form7_any (op:Nat) (h:op<256) (w:World):Calls Tryz.prog 62 #[] w fun e w'=>∃ g,e=.returned (.slice (some ⟨g,0,none⟩) 256 256)/\w'.cell? ⟨g,op,none⟩=some (.string ⟨(forms07.getD op []).toArray⟩)/\Below w.heap.size w w':=by
 refine (forms7_any w).mono ?_
 rintro e w1 ⟨v,rfl,hW,hb⟩
 obtain ⟨g,rfl,hg,hc⟩:=hW
 have:=hc op (by rw [forms07_len];exact h)
 refine ⟨g,by rw [forms07_len],?_,hb⟩
 rw [this,getD_at _ _ (by rw [forms07_len];exact h)]
theorem refName7_any (op:Nat) (h:op<256) (w:World):Calls Tryz.prog 27 #[.int .u8 op] w fun e w'=>e=.returned (.string ⟨(zname op).toArray⟩)/\Below w.heap.size w w':=by
 have HF:=LH (form7_any op h w)
 have HW:=LH (fun W=>formw7_any op h W)
 unfold zname
 have h2:(op:Int)<256:=by omega
 generalize zform op=ws at *
 generalize forms07.getD op []=fm at *
 clear h
 match ws,HW with
 | [],HW=>
  go_enter Tryz.func27, Tryz.ntmps27
  go_wp2_with fail
  refine HF.out.mono ?_
  rintro e w1 ⟨g,rfl,hcell,hb1⟩
  go_wp2_with fail
  refine (HW.out _).mono ?_
  rintro e w2 ⟨v,rfl,hown,hb2⟩
  have B2:=LH (bthen hb1 hb2)
  have RD:=LH (Rd.of_own hown)
  obtain ⟨vA,vc,rfl,hvc,hvm,hrest⟩:=own_slice hown (by omega)
  clear hb1 hb2 hown hcell HW HF h2 hvm hrest
  simp only [List.length_nil] at *
  go_wp2_with fail
  go_ret
  exact ⟨rfl,B2.out⟩
 | x :: r,HW=>
  go_enter Tryz.func27, Tryz.ntmps27
  go_wp2_with fail
  refine HF.out.mono ?_
  rintro e w1 ⟨g,rfl,hcell,hb1⟩
  go_wp2_with fail
  refine (HW.out _).mono ?_
  rintro e w2 ⟨v,rfl,hown,hb2⟩
  have B2:=LH (bthen hb1 hb2)
  have RD:=LH (Rd.of_own hown)
  obtain ⟨vA,vc,rfl,hvc,hvm,hrest⟩:=own_slice hown (by omega)
  clear hb1 hb2 hown hcell HW HF h2 hvm hrest
  simp only [List.length_cons] at *
  obtain ⟨g2,o2,rfl,hg2,c2,_⟩:=rd_first RD.out
  have i1:((r.length:Int)+1 == 0)=false:=by rw [beq_eq_false_iff_ne];omega
  have i2:(0:Int)<(r.length:Int)+1:=by omega
  clear RD
  generalize r.length=m at *
  go_wp2_with fail
  go_ret
  exact ⟨rfl,B2.out⟩
theorem refArgs7_any (op:Nat) (h:op<256) (w:World):Calls Tryz.prog 28 #[.int .u8 op] w (ArgsP w (zargs op)):=by
 have HF:=LH (form7_any op h w)
 have HW:=LH (fun W=>formw7_any op h W)
 unfold zargs
 have h2:(op:Int)<256:=by omega
 generalize zform op=ws at *
 generalize forms07.getD op []=fm at *
 clear h
 match ws,HW with
 | [],HW=>
  go_enter Tryz.func28, Tryz.ntmps28
  go_wp2_with fail
  refine HF.out.mono ?_
  rintro e w1 ⟨g,rfl,hcell,hb1⟩
  go_wp2_with fail
  refine (HW.out _).mono ?_
  rintro e w2 ⟨v,rfl,hown,hb2⟩
  have B2:=LH (bthen hb1 hb2)
  have RD:=LH (Rd.of_own hown)
  obtain ⟨vA,vc,rfl,hvc,hvm,hrest⟩:=own_slice hown (by omega)
  clear hb1 hb2 hown hcell HW HF h2 hvm hrest
  simp only [List.length_nil] at *
  go_wp2_with fail
  go_ret
  exact ⟨_,rfl,⟨none,0,rfl,Nat.le_refl _,fun h=>absurd h (by simp)⟩,B2.out⟩
 | x :: r,HW=>
  go_enter Tryz.func28, Tryz.ntmps28
  go_wp2_with fail
  refine HF.out.mono ?_
  rintro e w1 ⟨g,rfl,hcell,hb1⟩
  go_wp2_with fail
  refine (HW.out _).mono ?_
  rintro e w2 ⟨v,rfl,hown,hb2⟩
  have B2:=LH (bthen hb1 hb2)
  have RD:=LH (Rd.of_own hown)
  obtain ⟨vA,vc,rfl,hvc,hvm,hrest⟩:=own_slice hown (by omega)
  clear hb1 hb2 hown hcell HW HF h2 hvm hrest
  simp only [List.length_cons,List.drop_succ_cons,List.drop_zero] at *
  obtain ⟨g2,o2,rfl,hg2,c2,HT⟩:=rd_first RD.out
  have HT:=LH HT
  have i1:((r.length:Int)+1 == 0)=false:=by rw [beq_eq_false_iff_ne];omega
  have i2:(1:Int)<=(r.length:Int)+1:=by omega
  have i3:(r.length:Int)+1<=(vc:Int):=by omega
  clear RD
  go_wp2_with fail
  all_goals (
   go_ret
   refine ⟨_,rfl,?_,B2.out⟩
   exact HT.out _ _ (fun h=>by first | rfl | omega) (by omega))
theorem rank_any (o:List UInt8) (w:World):Calls Tryz.prog 145 #[.string ⟨o.toArray⟩] w fun e w'=>e=.returned (.tuple #[.int .i64 (bindsE o).1,.int .i64 (bindsE o).2])/\w=w':=by
 by_cases h:o=sNum∨o=sN∨o=sHere∨o=sNEG∨o = [42]∨o = [47]∨o=sMOD∨o=sSHL∨o=sSHR∨o = [43]∨o = [45]∨o=sNOT∨o=sAND∨o=sOR∨o=sXOR
 ·rcases h with rfl | rfl | rfl | rfl | rfl | rfl | rfl | rfl | rfl | rfl | rfl | rfl | rfl | rfl | rfl
  all_goals (
   go_enter Tryz.func145, Tryz.ntmps145
   go_wp2_with fail
   go_ret2
   exact ⟨rfl,rfl⟩)
 ·have HB:=LH (binds_no o h)
  simp only [not_or] at h
  obtain ⟨h1,h2,h3,h4,h5,h6,h7,h8,h9,h10,h11,h12,h13,h14,h15⟩:=h
  replace h1:(o == [35])=false:=by simpa using h1
  replace h2:(o == [110])=false:=by simpa using h2
  replace h3:(o == [36])=false:=by simpa using h3
  replace h4:(o == [78,69,71])=false:=by simpa using h4
  replace h5:(o == [42])=false:=by simpa using h5
  replace h6:(o == [47])=false:=by simpa using h6
  replace h7:(o == [77,79,68])=false:=by simpa using h7
  replace h8:(o == [83,72,76])=false:=by simpa using h8
  replace h9:(o == [83,72,82])=false:=by simpa using h9
  replace h10:(o == [43])=false:=by simpa using h10
  replace h11:(o == [45])=false:=by simpa using h11
  replace h12:(o == [78,79,84])=false:=by simpa using h12
  replace h13:(o == [65,78,68])=false:=by simpa using h13
  replace h14:(o == [79,82])=false:=by simpa using h14
  replace h15:(o == [88,79,82])=false:=by simpa using h15
  go_enter Tryz.func145, Tryz.ntmps145
  go_wp2_with fail
  go_ret2
  rw [HB.out]
  exact ⟨rfl,rfl⟩
theorem refWord_any (o:List UInt8) (w:World):Calls Tryz.prog 144 #[.string ⟨o.toArray⟩] w fun e w'=>e=.returned (.bool (wordE o))/\w=w':=by
 by_cases h:o=sOR∨o=sXOR∨o=sAND∨o=sNOT∨o=sMOD∨o=sSHL∨o=sSHR
 ·rcases h with rfl | rfl | rfl | rfl | rfl | rfl | rfl
  all_goals (
   go_enter Tryz.func144, Tryz.ntmps144
   go_wp2_with fail
   go_ret
   exact ⟨rfl,rfl⟩)
 ·have HB:=LH (show wordE o=false from decide_eq_false h)
  simp only [not_or] at h
  obtain ⟨h1,h2,h3,h4,h5,h6,h7⟩:=h
  replace h1:(o == [79,82])=false:=by simpa using h1
  replace h2:(o == [88,79,82])=false:=by simpa using h2
  replace h3:(o == [65,78,68])=false:=by simpa using h3
  replace h4:(o == [78,79,84])=false:=by simpa using h4
  replace h5:(o == [77,79,68])=false:=by simpa using h5
  replace h6:(o == [83,72,76])=false:=by simpa using h6
  replace h7:(o == [83,72,82])=false:=by simpa using h7
  go_enter Tryz.func144, Tryz.ntmps144
  go_wp2_with fail
  go_ret
  rw [HB.out]
  exact ⟨rfl,rfl⟩
theorem refByte_ways (c:UInt8) :
  letB c=true ∨
  (letB c=false/\decide ((c.toNat:Int)<48)=true/\numB c=false) ∨
  (letB c=false/\decide ((c.toNat:Int)<48)=false/\decide ((57:Int)<(c.toNat:Int))=true/\numB c=false) ∨
  (letB c=false/\decide ((c.toNat:Int)<48)=false/\decide ((57:Int)<(c.toNat:Int))=false/\numB c=true):=by
 have:∀ n:Fin 256,letB (UInt8.ofNat n.val)=true ∨
  (letB (UInt8.ofNat n.val)=false/\decide ((n.val:Int)<48)=true/\numB (UInt8.ofNat n.val)=false) ∨
  (letB (UInt8.ofNat n.val)=false/\decide ((n.val:Int)<48)=false/\decide ((57:Int)<(n.val:Int))=true/\numB (UInt8.ofNat n.val)=false) ∨
  (letB (UInt8.ofNat n.val)=false/\decide ((n.val:Int)<48)=false/\decide ((57:Int)<(n.val:Int))=false/\numB (UInt8.ofNat n.val)=true):=by decide +kernel
 have h:=this ⟨c.toNat,c.toNat_lt⟩
 simpa only [UInt8.ofNat_toNat] using h
theorem refName_any (l:List UInt8) (w:World) (hl:l.length<=1000000) :
  Calls Tryz.prog 54 #[.string ⟨l.toArray⟩] w fun e w'=>e=.returned (.bool (nameB l))/\w=w':=by
 by_cases h0:l = []
 ·subst h0
  go_enter Tryz.func54, Tryz.ntmps54
  go_wp2_with fail
  go_ret
  exact ⟨rfl,rfl⟩
 have h1:1<=l.length:=by cases l with | nil=>simp at h0 | cons c r=>simp
 have h1':(1:Int)<=(l.length:Int):=by omega
 have d1:decide ((l.length:Int)<1)=false:=by simp;omega
 by_cases h16:16<l.length
 ·have h16':(16:Int)<(l.length:Int):=by omega
  have hf:Hid (nameB l=false):=LH (by unfold nameB;rw [show decide (l.length<=16)=false by simp;omega];simp)
  clear h0
  generalize nameB l=r at *
  go_enter Tryz.func54, Tryz.ntmps54
  go_wp2_with fail
  go_ret
  rw [hf.out]
  exact ⟨rfl,rfl⟩
 have h16':(l.length:Int)<=16:=by omega
 have d16:decide ((16:Int)<(l.length:Int))=false:=by simp;omega
 have hE:=fun h=>LH (nameTo_end l h1 (by omega) h)
 have hE':=LH hE
 have hN:=LH (nameTo_no l)
 clear hE h0
 generalize nameB l=r at *
 go_enter Tryz.func54, Tryz.ntmps54
 go_wp2_with fail
 refine (letter_any _ _).mono ?_
 rintro e w' ⟨rfl,rfl⟩
 rcases Bool.eq_false_or_eq_true (letB l[0]) with hc | hc
 ·have HT:=LH (nameTo_step l 0 h1 rfl (.inl hc))
  generalize letB l[0]=b0 at *
  subst hc
  go_wp2_with fail
  go_loop [3] (fun i=>∃ k:Nat,1<=k/\k<=l.length/\i=.int .i64 k/\nameTo l k=true) (fun i=>l.length - (intOf i).toNat)
  case atStart=>exact ⟨1,Nat.le_refl _,h1,rfl,HT.out⟩
  case round=>
   clear HT
   obtain ⟨k,hk1,hk,rfl,hnt⟩:=hrel
   have HT:=LH hnt
   clear hnt
   by_cases hlt:k<l.length
   ·go_wp2_with fail
    refine (letter_any _ _).mono ?_
    rintro e w' ⟨rfl,rfl⟩
    rcases refByte_ways l[k] with b1 | ⟨b1,e2,b2⟩ | ⟨b1,e2,e3,b2⟩ | ⟨b1,e2,e3,b2⟩
    ·have HS:=LH (nameTo_step l k hlt HT.out (.inl b1))
     go_wp2_with fail
     go_round
     case rel=>exact ⟨k+1,by omega,by omega,by go_num,HS.out⟩
     case measure=>simp [intOf];omega
    ·have HS:=LH (hN.out k hlt b1 (.inr b2))
     go_wp2_with fail
     go_ret
     rw [HS.out]
     exact ⟨rfl,rfl⟩
    ·have HS:=LH (hN.out k hlt b1 (.inr b2))
     go_wp2_with fail
     go_ret
     rw [HS.out]
     exact ⟨rfl,rfl⟩
    ·have HS:=LH (nameTo_step l k hlt HT.out (.inr ⟨by omega,b2⟩))
     go_wp2_with fail
     go_round
     case rel=>exact ⟨k+1,by omega,by omega,by go_num,HS.out⟩
     case measure=>simp [intOf];omega
   ·obtain rfl:k=l.length:=by omega
    have HS:=LH (hE'.out HT.out).out
    go_wp2_with fail
    go_ret
    rw [HS.out]
    exact ⟨rfl,rfl⟩
 ·have HS:=LH (hN.out 0 (by omega) hc (.inl rfl))
  generalize letB l[0]=b0 at *
  subst hc
  go_wp2_with fail
  go_ret
  rw [HS.out]
  exact ⟨rfl,rfl⟩
theorem wordsF_len:∀ (s cur:List UInt8) (acc:List (List UInt8)),(wordsF s cur acc).length<=acc.length+s.length+1
 | [],cur,acc=>by unfold wordsF;split <;> simp
 | c :: r,cur,acc=>by
  unfold wordsF
  split
  ·have:=wordsF_len r [] (acc++[cur])
   simp at this ⊢
   omega
  ·have:=wordsF_len r (cur++[c]) acc
   simp at this ⊢
   omega
theorem rd_strR {w:World} {B c:Nat} {A:Option Addr} {ws:List (List UInt8)} (h:Rd w B (.slice A ws.length c) ws.length (ws.map strV)) (h0:0<ws.length) :
  ∃ g o,A=some ⟨g,o,none⟩/\g<B/\∀ k (hk:k<ws.length),w.cell? ⟨g,o+k,none⟩=some (.string ⟨ws[k].toArray⟩):=by
 obtain ⟨A',c',h1,h2,h3⟩:=h
 injection h1 with h1 _ _
 subst h1
 obtain ⟨g,o,h4,h5,h6⟩:=h3 h0
 exact ⟨g,o,h4,h5,fun k hk=>h6 k _ (by simp [strV,hk])⟩
theorem rin_any (L x:List UInt8) (hL:L.length<=1000) (w:World):Calls Tryz.prog 105 #[.string ⟨L.toArray⟩,.string ⟨x.toArray⟩] w fun e w'=>e=.returned (.bool (decide (x∈wordsR L)))/\Below w.heap.size w w':=by
 have HW:=LH (words6_any L w hL)
 have hlen:(wordsR L).length<=2000:=by have:=wordsF_len L [] [];unfold wordsR;simp at this ⊢;omega
 have HY:Hid (x∈wordsR L->decide (x∈wordsR L)=true):=LH (fun h=>decide_eq_true h)
 have HN:Hid (x∉wordsR L->decide (x∈wordsR L)=false):=LH (fun h=>decide_eq_false h)
 generalize decide (x∈wordsR L)=res at *
 generalize wordsR L=ws at *
 clear hL
 go_enter Tryz.func105, Tryz.ntmps105
 go_wp2_with fail
 refine HW.out.mono ?_
 rintro e w1 ⟨v,rfl,hown,hb1⟩
 have RD:=LH (Rd.of_own hown)
 have B1:=LH hb1
 obtain ⟨vA,vc,rfl,hvc,hvm,_⟩:=own_slice hown (by omega)
 clear hown hb1 hvm HW
 go_wp2_with fail
 go_loop [6] (fun i=>∃ k:Nat,k<=ws.length/\i=.int .i64 k/\∀ j (hj:j<ws.length),j<k->x≠ws[j]) (fun i=>ws.length - (intOf i).toNat)
 case atStart=>exact ⟨0,Nat.zero_le _,rfl,fun j _ h=>absurd h (by omega)⟩
 case round=>
  obtain ⟨k,hk,rfl,hno⟩:=hrel
  have HNO:=LH hno
  clear hno
  by_cases hlt:k<ws.length
  ·obtain ⟨g,o,rfl,hg,hck⟩:=rd_strR RD.out (by omega)
   have ck:=hck k hlt
   have HK:Hid (ws[k]∈ws):=LH (List.getElem_mem hlt)
   have e1:(k:Int)<(ws.length:Int):=by omega
   clear hck
   by_cases he:x=ws[k]
   ·have hr:=HY.out (he ▸ HK.out)
    subst hr
    rw [← he] at ck
    clear he HK
    go_wp2_with fail
    go_ret
    exact ⟨rfl,B1.out⟩
   ·have HS:Hid (∀ j (hj:j<ws.length),j<k+1->x≠ws[j]):=LH (fun j hj h=>by
     by_cases hjk:j=k
     ·subst hjk;exact he
     ·exact HNO.out j hj (by omega))
    have hb:(ws[k] == x)=false:=by simpa using fun h=>he h.symm
    have hlt2:=LH (show k+1<=ws.length from hlt)
    generalize ws[k]=y at *
    clear he HK
    go_wp2_with fail
    go_round
    case rel=>exact ⟨k+1,hlt2.out,by go_num,HS.out⟩
    case measure=>simp [intOf];omega
  ·have hr:res=false:=HN.out (fun h=>by obtain ⟨j,hj,he⟩:=List.getElem_of_mem h;exact HNO.out j hj (by omega) he.symm)
   subst hr
   go_wp2_with fail
   go_ret
   exact ⟨rfl,B1.out⟩
def intelS:List UInt8:=[65,32,66,32,67,32,68,32,69,32,72,32,76,32,77,32,83,80,32,80,83,87]
def zilogS:List UInt8:=[65,32,66,32,67,32,68,32,69,32,72,32,76,32,65,70,32,66,67,32,68,69,32,72,76,32,83,80,32,78,90,32,90,32,78,67,32,80,79,32,80,69,32,80,32,77]
def eightS:List UInt8:=[65,76,32,67,76,32,68,76,32,66,76,32,65,72,32,67,72,32,68,72,32,66,72,32,65,88,32,67,88,32,68,88,32,66,88,32,83,80,32,66,80,32,83,73,32,68,73]
theorem resS_ok:(intelW=wordsR opS++wordsR intelS/\zilogW=wordsR opS++wordsR zilogS/\eightW=wordsR opS++wordsR eightS):=by decide +kernel
theorem resS_len:opS.length<=1000/\intelS.length<=1000/\zilogS.length<=1000/\eightS.length<=1000:=by decide +kernel
theorem mem_two (x:List UInt8) (a b:List (List UInt8)):decide (x∈a++b)=(decide (x∈b) || decide (x∈a)):=by
 rw [Bool.eq_iff_iff]
 simp [or_comm]
theorem resS_0 (x:List UInt8):resB 0 x=(decide (x∈wordsR intelS) || decide (x∈wordsR opS)):=by rw [← mem_two,← resS_ok.1];simp [resB]
theorem resS_1 (x:List UInt8):resB 1 x=(decide (x∈wordsR zilogS) || decide (x∈wordsR opS)):=by rw [← mem_two,← resS_ok.2.1];simp [resB]
theorem resS_2 (x:List UInt8):resB 2 x=(decide (x∈wordsR eightS) || decide (x∈wordsR opS)):=by rw [← mem_two,← resS_ok.2.2];simp [resB]
theorem rres_any (d:Int) (x:List UInt8) (w:World):Calls Tryz.prog 57 #[.int .i64 d,.string ⟨x.toArray⟩] w fun e w'=>e=.returned (.bool (resB d x))/\Below w.heap.size w w':=by
 have H1:=LH (fun W=>rin_any intelS x resS_len.2.1 W)
 have H2:=LH (fun W=>rin_any zilogS x resS_len.2.2.1 W)
 have H3:=LH (fun W=>rin_any eightS x resS_len.2.2.2 W)
 have H0:=LH (fun W=>rin_any opS x resS_len.1 W)
 have q0:=resS_0 x
 have q1:=resS_1 x
 have q2:=resS_2 x
 generalize decide (x∈wordsR intelS)=b1 at *
 generalize decide (x∈wordsR zilogS)=b2 at *
 generalize decide (x∈wordsR eightS)=b3 at *
 generalize decide (x∈wordsR opS)=b0 at *
 by_cases h0:d=0
 ·subst h0
  rw [q0]
  clear q0 q1 q2 H2 H3
  cases b1
  ·go_enter Tryz.func57, Tryz.ntmps57
   go_wp2_with fail
   refine (H1.out _).mono ?_
   rintro e w1 ⟨rfl,hb1⟩
   go_wp2_with fail
   refine (H0.out _).mono ?_
   rintro e w2 ⟨rfl,hb2⟩
   go_wp2_with fail
   go_ret
   exact ⟨rfl,bthen hb1 hb2⟩
  ·go_enter Tryz.func57, Tryz.ntmps57
   go_wp2_with fail
   refine (H1.out _).mono ?_
   rintro e w1 ⟨rfl,hb1⟩
   go_wp2_with fail
   go_ret
   exact ⟨rfl,hb1⟩
 by_cases h1:d=1
 ·subst h1
  rw [q1]
  clear q0 q1 q2 H1 H3 h0
  cases b2
  ·go_enter Tryz.func57, Tryz.ntmps57
   go_wp2_with fail
   refine (H2.out _).mono ?_
   rintro e w1 ⟨rfl,hb1⟩
   go_wp2_with fail
   refine (H0.out _).mono ?_
   rintro e w2 ⟨rfl,hb2⟩
   go_wp2_with fail
   go_ret
   exact ⟨rfl,bthen hb1 hb2⟩
  ·go_enter Tryz.func57, Tryz.ntmps57
   go_wp2_with fail
   refine (H2.out _).mono ?_
   rintro e w1 ⟨rfl,hb1⟩
   go_wp2_with fail
   go_ret
   exact ⟨rfl,hb1⟩
 by_cases h2:d=2
 ·subst h2
  rw [q2]
  clear q0 q1 q2 H1 H2 h0 h1
  cases b3
  ·go_enter Tryz.func57, Tryz.ntmps57
   go_wp2_with fail
   refine (H3.out _).mono ?_
   rintro e w1 ⟨rfl,hb1⟩
   go_wp2_with fail
   refine (H0.out _).mono ?_
   rintro e w2 ⟨rfl,hb2⟩
   go_wp2_with fail
   go_ret
   exact ⟨rfl,bthen hb1 hb2⟩
  ·go_enter Tryz.func57, Tryz.ntmps57
   go_wp2_with fail
   refine (H3.out _).mono ?_
   rintro e w1 ⟨rfl,hb1⟩
   go_wp2_with fail
   go_ret
   exact ⟨rfl,hb1⟩
 have hq:resB d x=false:=by simp [resB,h0,h1,h2]
 rw [hq]
 have e0:(d == 0)=false:=by simpa using h0
 have e1:(d == 1)=false:=by simpa using h1
 have e2:(d == 2)=false:=by simpa using h2
 clear q0 q1 q2 H1 H2 H3 H0 h0 h1 h2 hq
 go_enter Tryz.func57, Tryz.ntmps57
 go_wp2_with fail
 go_ret
 exact ⟨rfl,Below.refl _ _⟩
theorem rright_name (n:Nat) (m:List UInt8) (s:List Ex) (d:Nat) (hd0:1<=d) (hd:d<=1000) (v:Value) (w:World) (hs:SubAt w (· < w.heap.size) v s) (hml:m.length<=1000000) :
  Calls Tryz.prog 106 #[.agg #[.string ⟨#[110]⟩,.int .u16 n,.string ⟨m.toArray⟩,v],.int .i64 d] w fun e w'=>e=.returned (.bool (rightE (.mk sN n m s) (25 - d)))/\Below w.heap.size w w':=by
 have HB:Hid (∀ W,Calls Tryz.prog 145 #[.string ⟨#[110]⟩] W fun e w'=>e=.returned (.tuple #[.int .i64 7,.int .i64 0])/\W=w'):=LH (fun W=>rank_any sN W)
 have HR:=rightE_mk sN n m s (25 - d)
 rw [headE_name] at HR
 obtain ⟨A,c,rfl,hc,hm2⟩:=hs.form
 unfold maxLen at hm2
 have HN:=LH (fun W=>(refName_any m W hml).mono (fun _ _ h=>And.intro h.1 h.2.symm))
 have HU:=LH (fun W=>refUpper_any m W hml)
 have HW:=LH (fun W=>refWord_any m W)
 have HR':=LH HR
 clear HR hs
 generalize rightE (.mk sN n m s) (25 - d)=res at *
 by_cases h0:24<d
 ·have HRES:Hid (res=false):=LH (by rw [HR'.out,show (25 - d == 0)=true by simp;omega];rfl)
  have h0':(24:Int)<(d:Int):=by omega
  go_enter Tryz.func106, Tryz.ntmps106
  go_wp2_with fail
  refine (HB.out _).mono ?_
  rintro e w1 ⟨rfl,rfl⟩
  go_wp2_with fail
  go_ret
  rw [HRES.out]
  exact ⟨rfl,bra _ _⟩
 have h0':decide ((24:Int)<(d:Int))=false:=by simp;omega
 rcases Classical.em (¬ (s.length=0)) with h1 | h1
 ·have HRES:Hid (res=false):=LH (by rw [HR'.out];simp [h1])
  have h1':((s.length:Int) != 0)=true:=by rw [bne_iff_ne];omega
  have h1'':((s.length:Int) == 0)=false:=by rw [beq_eq_false_iff_ne];omega
  clear h1
  go_enter Tryz.func106, Tryz.ntmps106
  go_wp2_with fail
  refine (HB.out _).mono ?_
  rintro e w1 ⟨rfl,rfl⟩
  go_wp2_with fail
  go_ret
  rw [HRES.out]
  exact ⟨rfl,bra _ _⟩
 replace h1:=Classical.not_not.1 h1
 have hs0:s = []:=List.eq_nil_of_length_eq_zero h1
 subst hs0
 rcases Classical.em (¬ (n=0)) with h2 | h2
 ·have HRES:Hid (res=false):=LH (by rw [HR'.out];simp [h2])
  have h2':((n:Int) != 0)=true:=by rw [bne_iff_ne];omega
  have h2'':((n:Int) == 0)=false:=by rw [beq_eq_false_iff_ne];omega
  clear h1 h2
  go_enter Tryz.func106, Tryz.ntmps106
  go_wp2_with fail
  refine (HB.out _).mono ?_
  rintro e w1 ⟨rfl,rfl⟩
  go_wp2_with fail
  go_ret
  rw [HRES.out]
  exact ⟨rfl,bra _ _⟩
 replace h2:=Classical.not_not.1 h2
 subst h2
 have HR2:Hid (res=(nameB m && upper m == m && !wordE m)):=LH (by rw [HR'.out,show (25 - d == 0)=false by simp;omega];simp [rightL])
 clear HR' h1
 cases hn:nameB m with
 | false=>
  rw [hn] at HN HR2
  have HRES:Hid (res=false):=LH (by rw [HR2.out];simp)
  clear hn HR2
  go_enter Tryz.func106, Tryz.ntmps106
  go_wp2_with fail
  refine (HB.out _).mono ?_
  rintro e w1 ⟨rfl,rfl⟩
  go_wp2_with fail
  go_quiet ((go_at_call 54;exact Calls.quiet_of_same (HN.out _)))
  go_wp2_with fail
  all_goals (
   go_ret
   rw [HRES.out]
   exact ⟨rfl,below_dn (bra _ _) _⟩)
 | true=>
  rw [hn] at HN HR2
  have HN2:=LH (fun W=>(HN.out W).mono (fun _ _ h=>And.intro h.1 h.2.symm))
  by_cases hu:upper m=m
  ·rw [hu] at HU HR2
   cases hw:wordE m with
   | true=>
    rw [hw] at HW HR2
    clear hn hu hw
    have HRES:Hid (res=false):=LH (by rw [HR2.out];simp)
    go_enter Tryz.func106, Tryz.ntmps106
    go_wp2_with fail
    refine (HB.out _).mono ?_
    rintro e w1 ⟨rfl,rfl⟩
    go_wp2_with fail
    first | (go_region_with (first | (go_at_call 54;(with_reducible refine (HN2.out _).mono ?_);rintro e1 w2 ⟨rfl,rfl⟩) | (go_at_call 55;(with_reducible refine (HU.out _).mono ?_);rintro e1 w3 ⟨rfl,hb3⟩;obtain ⟨hcc,hff⟩:=bcell hb3) | (go_at_call 144;(with_reducible refine (HW.out _).mono ?_);rintro e1 w4 ⟨rfl,rfl⟩))) | fail
    all_goals (
     have hbw:=(bra w _).drew.trans (hb3.mono (by simp))
     go_simp
     go_wp2_with fail
     all_goals (
      go_ret
      rw [HRES.out]
      exact ⟨rfl,hbw⟩))
   | false=>
    rw [hw] at HW HR2
    clear hn hu hw
    have HRES:Hid (res=true):=LH (by rw [HR2.out];simp)
    go_enter Tryz.func106, Tryz.ntmps106
    go_wp2_with fail
    refine (HB.out _).mono ?_
    rintro e w1 ⟨rfl,rfl⟩
    go_wp2_with fail
    first | (go_region_with (first | (go_at_call 54;(with_reducible refine (HN2.out _).mono ?_);rintro e1 w2 ⟨rfl,rfl⟩) | (go_at_call 55;(with_reducible refine (HU.out _).mono ?_);rintro e1 w3 ⟨rfl,hb3⟩;obtain ⟨hcc,hff⟩:=bcell hb3) | (go_at_call 144;(with_reducible refine (HW.out _).mono ?_);rintro e1 w4 ⟨rfl,rfl⟩))) | fail
    all_goals (
     have hbw:=(bra w _).drew.trans (hb3.mono (by simp))
     have HBW:=LH hbw
     clear hbw hb3 hcc hff
     go_simp
     go_wp2_with fail
     refine wp_loop_rounds 1 ?_
     rw [rounds_succ]
     go_wp2_with fail
     go_ret
     rw [HRES.out]
     exact ⟨rfl,HBW.out⟩)
  ·have HRES:Hid (res=false):=LH (by rw [HR2.out];simp [hu])
   have hu':(upper m == m)=false:=by simpa using hu
   clear hn hu
   go_enter Tryz.func106, Tryz.ntmps106
   go_wp2_with fail
   refine (HB.out _).mono ?_
   rintro e w1 ⟨rfl,rfl⟩
   go_wp2_with fail
   first | (go_region_with (first | (go_at_call 54;(with_reducible refine (HN2.out _).mono ?_);rintro e1 w2 ⟨rfl,rfl⟩) | (go_at_call 55;(with_reducible refine (HU.out _).mono ?_);rintro e1 w3 ⟨rfl,hb3⟩;obtain ⟨hcc,hff⟩:=bcell hb3) | (go_at_call 144;(with_reducible refine (HW.out _).mono ?_);rintro e1 w4 ⟨rfl,rfl⟩))) | fail
   all_goals (
    have hbw:=(bra w _).drew.trans (hb3.mono (by simp))
    go_simp
    go_wp2_with fail
    all_goals (
     go_ret
     rw [HRES.out]
     exact ⟨rfl,hbw⟩))
def RRightH (x:Ex):Prop:=∀ (d:Nat) (v:Value) (w:World),1<=d->d<=100->fitE x=true->SubAt w (· < w.heap.size) v x.sub ->
 Calls Tryz.prog 106 #[.agg #[.string ⟨x.op.toArray⟩,.int .u16 x.n,.string ⟨x.name.toArray⟩,v],.int .i64 d] w fun e w'=>e=.returned (.bool (rightE x (25 - d)))/\Below w.heap.size w w'
theorem rright_other (o:List UInt8) (n:Nat) (m:List UInt8) (s:List Ex) (hf:fitL s=true) (ih:∀ x∈s,RRightH x) (ho:o≠sN) (d:Nat) (hd0:1<=d) (hd:d<=100) (v:Value) (w:World) (hs:SubAt w (· < w.heap.size) v s) :
  Calls Tryz.prog 106 #[.agg #[.string ⟨o.toArray⟩,.int .u16 n,.string ⟨m.toArray⟩,v],.int .i64 d] w fun e w'=>e=.returned (.bool (rightE (.mk o n m s) (25 - d)))/\Below w.heap.size w w':=by
 have ho':(o == [110])=false:=by simpa using ho
 have HB:=LH (fun W=>rank_any o W)
 have HR:=rightE_mk o n m s (25 - d)
 rw [headE_other o n m s.length ho,rightL_all] at HR
 obtain ⟨A,c,rfl,hc,hm2⟩:=hs.form
 unfold maxLen at hm2
 have HS:=LH hs
 have HI:=LH ih
 have HF:=LH (fitL_mem s hf)
 have HR':=LH HR
 clear HR hs ih hf
 generalize rightE (.mk o n m s) (25 - d)=res at *
 generalize bindsE o=br at *
 obtain ⟨rank,parts⟩:=br
 dsimp only at HB HR'
 by_cases h0:24<d
 ·have HRES:Hid (res=false):=LH (by rw [HR'.out,show (25 - d == 0)=true by simp;omega];rfl)
  have h0':(24:Int)<(d:Int):=by omega
  go_enter Tryz.func106, Tryz.ntmps106
  go_wp2_with fail
  refine (HB.out _).mono ?_
  rintro e w1 ⟨rfl,rfl⟩
  go_wp2_with fail
  go_ret
  rw [HRES.out]
  exact ⟨rfl,bra _ _⟩
 have h0':decide ((24:Int)<(d:Int))=false:=by simp;omega
 have hd24:(d:Int)<=24:=by omega
 have h0b:(25 - d == 0)=false:=by simp;omega
 rw [h0b] at HR'
 clear h0b
 by_cases h1:rank=0
 ·have HRES:Hid (res=false):=LH (by rw [HR'.out,h1];rfl)
  subst h1
  go_enter Tryz.func106, Tryz.ntmps106
  go_wp2_with fail
  refine (HB.out _).mono ?_
  rintro e w1 ⟨rfl,rfl⟩
  go_wp2_with fail
  go_ret
  rw [HRES.out]
  exact ⟨rfl,bra _ _⟩
 have h1':((rank:Int) == 0)=false:=by rw [beq_eq_false_iff_ne];omega
 have h1b:(rank == 0)=false:=by simpa using h1
 rw [h1b] at HR'
 clear h1b
 rcases Classical.em (¬ (s.length=parts)) with h2 | h2
 ·have HRES:Hid (res=false):=LH (by rw [HR'.out,show (s.length == parts)=false by simpa using h2];simp)
  have h2':((s.length:Int) == (parts:Int))=false:=by rw [beq_eq_false_iff_ne];omega
  have h2'':((s.length:Int) != (parts:Int))=true:=by rw [bne_iff_ne];omega
  clear h2
  go_enter Tryz.func106, Tryz.ntmps106
  go_wp2_with fail
  refine (HB.out _).mono ?_
  rintro e w1 ⟨rfl,rfl⟩
  go_wp2_with fail
  go_ret
  rw [HRES.out]
  exact ⟨rfl,bra _ _⟩
 replace h2:=Classical.not_not.1 h2
 subst h2
 have h2':((s.length:Int) == (s.length:Int))=true:=by simp
 have h2'':((s.length:Int) != (s.length:Int))=false:=by simp
 by_cases h3:o≠sNum/\n≠0
 ·have h3b:(n == 0 || o == sNum)=false:=by simp;exact ⟨h3.2,h3.1⟩
  have HRES:Hid (res=false):=LH (by rw [HR'.out,h3b];simp)
  have h3':(o == [35])=false:=by simpa using h3.1
  have h3n:((n:Int) != 0)=true:=by rw [bne_iff_ne];omega
  have h3n':((n:Int) == 0)=false:=by rw [beq_eq_false_iff_ne];omega
  clear h3 h3b
  go_enter Tryz.func106, Tryz.ntmps106
  go_wp2_with fail
  refine (HB.out _).mono ?_
  rintro e w1 ⟨rfl,rfl⟩
  go_wp2_with fail
  go_ret
  rw [HRES.out]
  exact ⟨rfl,bra _ _⟩
 have h3b:(n == 0 || o == sNum)=true:=by
  rw [Bool.or_eq_true,beq_iff_eq,beq_iff_eq]
  by_cases hn:n=0
  ·exact .inl hn
  ·exact .inr (Classical.byContradiction fun h=>h3 ⟨h,hn⟩)
 rw [h3b] at HR'
 clear h3b
 have h3c:(o == [35])=true∨((o == [35])=false/\n=0):=by
  by_cases hon:o=sNum
  ·exact .inl (by simpa using hon)
  ·refine .inr ⟨by simpa using hon,Classical.byContradiction fun h=>h3 ⟨hon,h⟩⟩
 clear h3
 rcases Classical.em (¬ (m = [])) with h4 | h4
 ·have HRES:Hid (res=false):=LH (by rw [HR'.out,show (m == [])=false by simpa using h4];simp)
  have h4':(m == [])=false:=by simpa using h4
  have h4'':m.isEmpty=false:=by simpa using h4
  clear h4
  rcases h3c with h3c | ⟨h3c,rfl⟩
  all_goals (
   go_enter Tryz.func106, Tryz.ntmps106
   go_wp2_with fail
   refine (HB.out _).mono ?_
   rintro e w1 ⟨rfl,rfl⟩
   go_wp2_with fail
   go_ret
   rw [HRES.out]
   exact ⟨rfl,bra _ _⟩)
 replace h4:=Classical.not_not.1 h4
 subst h4
 have HR2:Hid (res=s.all (fun e=>rightE e (25 - d - 1))):=LH (by rw [HR'.out];simp)
 clear HR'
 rcases h3c with h3c | ⟨h3c,rfl⟩
 all_goals (
  go_enter Tryz.func106, Tryz.ntmps106
  go_wp2_with fail
  refine (HB.out _).mono ?_
  rintro e w1 ⟨rfl,rfl⟩
  go_wp2_with fail
  go_loopw [7] (fun i wr=>∃ k:Nat,k<=s.length/\i=.int .i64 k/\(s.take k).all (fun e=>rightE e (25 - d - 1))=true/\Below (w.heap.size+1) (w.alloc (.cells #[Sx o,.int .u16 _,Sn,.slice A s.length c] 34)) wr) (fun i _=>s.length - (intOf i).toNat)
  case atStart=>exact ⟨0,Nat.zero_le _,rfl,rfl,Below.refl _ _⟩
  case round=>
   obtain ⟨k,hk,rfl,hall,hb⟩:=hrel
   have hz:w.heap.size<wr.heap.size:=by have:=hb.size;simp at this;omega
   have e3:=box_at hb 3 _ rfl
   have hbw:Below w.heap.size w wr:=(bra _ _).trans (hb.mono (by omega))
   have HALL:=LH hall
   have HBB:=LH hb
   clear hall hb
   by_cases hlt:k<s.length
   ·obtain ⟨g,q,vk,rfl,hg,c0,c1,c2,c3,hsub,hn,hoo⟩:=HS.out.get k hlt
    obtain ⟨vA,vc,rfl,_,_⟩:=hsub.form
    have d0:=(hbw.cell (p:=⟨g,q+k * 4,none⟩) hg).trans c0
    have d1:=(hbw.cell (p:=⟨g,q+k * 4+1,none⟩) hg).trans c1
    have d2:=(hbw.cell (p:=⟨g,q+k * 4+2,none⟩) hg).trans c2
    have d3:=(hbw.cell (p:=⟨g,q+k * 4+3,none⟩) hg).trans c3
    have HC:Hid (Calls Tryz.prog 106 #[.agg #[.string ⟨s[k].op.toArray⟩,.int .u16 s[k].n,.string ⟨s[k].name.toArray⟩,.slice vA s[k].sub.length vc],.int .i64 ((d:Int)+1)] wr fun e w'=>e=.returned (.bool (rightE s[k] (25 - d - 1)))/\Below wr.heap.size wr w'):=LH (by
     have:=HI.out s[k] (List.getElem_mem hlt) (d+1) _ wr (by omega) (by omega) (HF.out s[k] (List.getElem_mem hlt)) ((hsub.bel hbw).more (fun x hx=>Nat.lt_of_lt_of_le hx hbw.size))
     rwa [show ((d+1:Nat):Int)=(d:Int)+1 by omega,show 25 - (d+1)=25 - d - 1 by omega] at this)
    have HT:Hid ((s.take (k+1)).all (fun e=>rightE e (25 - d - 1))=((s.take k).all (fun e=>rightE e (25 - d - 1)) && rightE s[k] (25 - d - 1))):=LH (by rw [List.take_succ_eq_append_getElem hlt,List.all_append];simp)
    have HN:Hid (rightE s[k] (25 - d - 1)=false->res=false):=LH (fun h=>by rw [HR2.out,List.all_eq_false];exact ⟨s[k],List.getElem_mem hlt,by simp [h]⟩)
    generalize s[k]=ek at *
    have HBW:=LH hbw
    clear c0 c1 c2 c3 hsub hbw
    cases hre:rightE ek (25 - d - 1) with
    | true=>
     rw [hre] at HC HT
     clear hre
     go_wp2_with fail
     refine HC.out.mono ?_
     rintro e0 w5 ⟨rfl,hb5⟩
     go_wp2_with fail
     go_roundw
     case rel=>exact ⟨k+1,by omega,by go_num,by rw [HT.out,HALL.out];rfl,HBB.out.trans (hb5.mono hz)⟩
     case measure=>simp [intOf];omega
    | false=>
     rw [hre] at HC
     have hrl:=HN.out hre
     clear hre HN
     subst hrl
     go_wp2_with fail
     refine HC.out.mono ?_
     rintro e0 w5 ⟨rfl,hb5⟩
     go_wp2_with fail
     go_ret
     exact ⟨rfl,bthen HBW.out hb5⟩
   ·obtain rfl:k=s.length:=by omega
    have hrl:res=true:=by rw [HR2.out];have:=HALL.out;rwa [List.take_length] at this
    subst hrl
    have HBW:=LH hbw
    clear hbw
    go_wp2_with fail
    go_ret
    exact ⟨rfl,HBW.out⟩)
theorem rright_any (x:Ex):RRightH x:=by
 induction x using Ex.ind with
 | h o n m s ih=>
  intro d v w hd0 hd hf hs
  simp only [fitE,Bool.and_eq_true,decide_eq_true_eq] at hf
  by_cases ho:o=sN
  ·subst ho
   exact rright_name n m s d hd0 (by omega) v w hs (by omega)
  ·exact rright_other o n m s hf.2 ih ho d hd0 hd v w hs
theorem RRight_any (e:Ex) (v:Value) (w:World) (hf:fitE e=true) (hs:SubAt w (· < w.heap.size) v e.sub) :
  Calls Tryz.prog 58 #[.agg #[.string ⟨e.op.toArray⟩,.int .u16 e.n,.string ⟨e.name.toArray⟩,v]] w fun r w'=>r=.returned (.int .i64 ((if rightE e 24 then 0 else 2:Nat):Int))/\Below w.heap.size w w':=by
 have HC:Hid (∀ o,Calls Tryz.prog 106 #[.agg #[Sx e.op,.int .u16 e.n,Sx e.name,v],.int .i64 1] (w.alloc o) fun r w'=>r=.returned (.bool (rightE e 24))/\Below (w.alloc o).heap.size (w.alloc o) w'):=LH (fun o=>rright_any e 1 v (w.alloc o) (by omega) (by omega) hf (hs.keep (fun p hp=>World.cell?_alloc_lt _ _ _ hp) (fun g (hg:g<w.heap.size)=>by simp;omega)))
 obtain ⟨A,c,rfl,_,_⟩:=hs.form
 clear hs hf
 cases hr:rightE e 24 with
 | true=>
  rw [hr] at HC
  go_enter Tryz.func58, Tryz.ntmps58
  go_wp2_with fail
  refine (HC.out _).mono ?_
  rintro e0 w2 ⟨rfl,hb2⟩
  go_wp2_with fail
  go_ret
  exact ⟨rfl,(bra _ _).trans (hb2.mono (by simp))⟩
 | false=>
  rw [hr] at HC
  go_enter Tryz.func58, Tryz.ntmps58
  go_wp2_with fail
  refine (HC.out _).mono ?_
  rintro e0 w2 ⟨rfl,hb2⟩
  go_wp2_with fail
  go_ret
  exact ⟨rfl,(bra _ _).trans (hb2.mono (by simp))⟩
end Go.Proofs.YtijgppokofganaaGreatDoor
