/- Xc. -/
import Derived.Test.YtbdnbfacalfciaaGreatDoorUb
import Derived.Laws.CopyOwn
import Derived.Test.YtbdnbfacalfciaaGreatDoorXb
import Derived.Laws.Bits64b
import Derived.BigRegion
import Derived.Test.YtbdnbfacalfciaaGreatDoorXa
namespace Go.Proofs.YtbdnbfacalfciaaGreatDoor
set_option maxRecDepth 100000
set_option maxHeartbeats 4000000
open Go.RowKit
def ImB (cur:List Value) (fs:Nat->Option UInt8) (has:Nat->Bool):Prop:=
 cur.length=66560/\(∀ a,a<65536->∃ v:Nat,v<256/\cur[a]? = some (.int .u8 (v:Int))/\∀ x,fs a=some x->v=x.toNat) /\
 ∀ j,j<1024->∃ wd:Nat,wd<18446744073709551616/\cur[65536+j]? = some (.int .u64 (wd:Int))/\∀ i,i<64->wd.testBit i=has (64 * j+i)
def updF (fs:Nat->Option UInt8) (pl:Nat) (b:List UInt8) (a:Nat):Option UInt8:=if pl<=a/\a<pl+b.length then b[a - pl]? else fs a
theorem or_lt (x k:Nat) (hx:x<18446744073709551616) (hk:k<64):x ||| 2 ^ k<18446744073709551616:=by
 have h2:2 ^ k<2 ^ 64:=Nat.pow_lt_pow_right (by omega) hk
 exact Nat.or_lt_two_pow (n:=64) hx h2
theorem ImB.bytes {cur:List Value} {fs:Nat->Option UInt8} {has:Nat->Bool} (h:ImB cur fs has) (pl:Nat) (b:List UInt8) (hp:pl+b.length<=65536):ImB (splice cur pl (b.map bv)) (updF fs pl b) has:=by
 obtain ⟨hl,h1,h2⟩:=h
 refine ⟨by rw [length_splice _ _ _ (by rw [List.length_map];omega)];exact hl,fun a ha=>?_,fun j hj=>?_⟩
 ·unfold updF splice
  by_cases hin:pl<=a/\a<pl+b.length
  ·have hk:a - pl<b.length:=by omega
   refine ⟨b[a - pl].toNat,UInt8.toNat_lt _,?_,?_⟩
   ·rw [List.getElem?_append_right (by simp;omega),List.getElem?_append_left (by simp;omega)]
    simp [show min pl cur.length=pl by omega,hk,bv]
   ·intro x hx
    rw [if_pos hin,List.getElem?_eq_getElem hk] at hx
    injection hx with hx
    rw [hx]
  ·obtain ⟨v,hv,hc,hx⟩:=h1 a ha
   refine ⟨v,hv,?_,fun x hxx=>hx x (by rw [if_neg hin] at hxx;exact hxx)⟩
   rw [← hc]
   by_cases hlt:a<pl
   ·rw [List.getElem?_append_left (by simp;omega),List.getElem?_take_of_lt hlt]
   ·rw [List.getElem?_append_right (by simp;omega),List.getElem?_append_right (by simp;omega),List.getElem?_drop]
    congr 1
    simp
    omega
 ·obtain ⟨wd,hw,hc,hb⟩:=h2 j hj
  refine ⟨wd,hw,?_,hb⟩
  rw [← hc]
  unfold splice
  rw [List.getElem?_append_right (by simp;omega),List.getElem?_append_right (by simp;omega),List.getElem?_drop]
  congr 1
  simp
  omega
theorem ImB.word {cur:List Value} {fs:Nat->Option UInt8} {has:Nat->Bool} (h:ImB cur fs has) (a:Nat) (ha:a<65536):∃ wd:Nat,wd<18446744073709551616/\cur[65536+a / 64]? = some (.int .u64 (wd:Int))/\wd.testBit (a % 64)=has a /\
  ImB (cur.set (65536+a / 64) (.int .u64 ((wd ||| 2 ^ (a % 64):Nat):Int))) fs (fun x=>has x || x == a):=by
 obtain ⟨hl,h1,h2⟩:=h
 obtain ⟨wd,hw,hc,hb⟩:=h2 (a / 64) (by omega)
 refine ⟨wd,hw,hc,?_,by rw [List.length_set];exact hl,fun x hx=>?_,fun j hj=>?_⟩
 ·rw [hb (a % 64) (by omega)];congr 1;omega
 ·obtain ⟨v,hv,hcv,hxv⟩:=h1 x hx
  exact ⟨v,hv,by rw [List.getElem?_set_ne (by omega)];exact hcv,hxv⟩
 ·by_cases hj2:j=a / 64
  ·subst hj2
   refine ⟨wd ||| 2 ^ (a % 64),or_lt _ _ hw (by omega),by rw [List.getElem?_set_self (by omega)],fun i hi=>?_⟩
   rw [Nat.testBit_or,hb i hi,Nat.testBit_two_pow]
   congr 1
   rw [Bool.eq_iff_iff]
   simp
   omega
  ·obtain ⟨wd2,hw2,hc2,hb2⟩:=h2 j hj
   refine ⟨wd2,hw2,by rw [List.getElem?_set_ne (by omega)];exact hc2,fun i hi=>?_⟩
   rw [hb2 i hi]
   show _=(has (64 * j+i) || (64 * j+i == a))
   rw [show (64 * j+i == a)=false by simp;omega,Bool.or_false]
def isB0:Value->Bool
 | .int .u8 0=>true
 | _=>false
def isQ0:Value->Bool
 | .int .u64 0=>true
 | _=>false
def imZ:Nat->List Value->Bool
 | 0,l=>l.all isQ0 && (l.length == 1024)
 | n+1,a :: l=>isB0 a && imZ n l
 | _+1,[]=>false
theorem imZ_ok:imZ 65536 Tryz.zeroCells281.toList=true:=by decide +kernel
theorem isB0_inv {v:Value} (h:isB0 v=true):v=.int .u8 0:=by
 unfold isB0 at h
 split at h
 ·rfl
 ·cases h
theorem isQ0_inv {v:Value} (h:isQ0 v=true):v=.int .u64 0:=by
 unfold isQ0 at h
 split at h
 ·rfl
 ·cases h
theorem imZ_all (n:Nat):∀ l:List Value,imZ n l=true->l.length=n+1024/\(∀ a,a<n->l[a]? = some (.int .u8 0))/\∀ j,j<1024->l[n+j]? = some (.int .u64 0):=by
 induction n with
 | zero=>
  intro l h
  simp only [imZ,Bool.and_eq_true,beq_iff_eq,List.all_eq_true] at h
  refine ⟨by omega,fun a ha=>by omega,fun j hj=>?_⟩
  rw [Nat.zero_add,List.getElem?_eq_getElem (by omega)]
  rw [isQ0_inv (h.1 _ (List.getElem_mem _))]
 | succ n ih=>
  intro l h
  cases l with
  | nil=>cases h
  | cons a l=>
   simp only [imZ,Bool.and_eq_true] at h
   obtain ⟨h1,h2,h3⟩:=ih l h.2
   refine ⟨by simp;omega,fun k hk=>?_,fun j hj=>?_⟩
   ·cases k with
    | zero=>rw [isB0_inv h.1];rfl
    | succ k=>rw [List.getElem?_cons_succ];exact h2 k (by omega)
   ·rw [show n+1+j=(n+j)+1 by omega,List.getElem?_cons_succ]
    exact h3 j hj
def ImAt (w:World) (im:Nat) (fs:Nat->Option UInt8):Prop:=
 ∃ cur:List Value,w.heap[im]? = some (.cells cur.toArray 281 (0,0))/\ImB cur fs (fun a=>(fs a).isSome)
theorem ImAt.keep {w w':World} {im:Nat} {fs:Nat->Option UInt8} (h:ImAt w im fs) (hk:w'.heap[im]? = w.heap[im]?):ImAt w' im fs:=by
 obtain ⟨cur,h1,h2⟩:=h
 exact ⟨cur,hk.trans h1,h2⟩
theorem ImAt.lt {w:World} {im:Nat} {fs:Nat->Option UInt8} (h:ImAt w im fs):im<w.heap.size:=by
 obtain ⟨cur,h1,h2⟩:=h
 exact loh h1
theorem ImAt.new (w:World):ImAt (w.alloc (.cells Tryz.zeroCells281 281)) w.heap.size (fun _=>none):=by
 obtain ⟨h1,h2,h3⟩:=imZ_all 65536 _ imZ_ok
 refine ⟨Tryz.zeroCells281.toList,?_,h1,fun a ha=>⟨0,by decide,h2 a ha,fun x hx=>by cases hx⟩,fun j hj=>⟨0,by decide,h3 j hj,fun i hi=>by simp⟩⟩
 rw [Array.toArray_toList]
 exact heap_alloc_new w _
theorem imNew_any (w:World):Calls Tryz.prog 150 #[] w fun e w'=>e=.returned (.pointer (some ⟨w.heap.size,0,none⟩))/\w'=w.alloc (.cells Tryz.zeroCells281 281):=by
 go_enter Tryz.func150, Tryz.ntmps150
 go_wp2_with fail
 go_ret
 exact ⟨rfl,rfl⟩
theorem ImAt.word {w:World} {im:Nat} {fs:Nat->Option UInt8} (h:ImAt w im fs) (a:Nat) (ha:a<65536):∃ wd:Nat,wd<18446744073709551616/\w.cell? ⟨im,65536+a / 64,none⟩=some (.int .u64 (wd:Int))/\wd.testBit (a % 64)=(fs a).isSome:=by
 obtain ⟨cur,h1,h2⟩:=h
 obtain ⟨wd,hw,hc,hb,_⟩:=h2.word a ha
 exact ⟨wd,hw,by rw [coh h1,List.getElem?_toArray];exact hc,hb⟩
theorem ImAt.byte {w:World} {im:Nat} {fs:Nat->Option UInt8} (h:ImAt w im fs) (a:Nat) (ha:a<65536):∃ v:Nat,v<256/\w.cell? ⟨im,a,none⟩=some (.int .u8 (v:Int)):=by
 obtain ⟨cur,h1,_,h2,_⟩:=h
 obtain ⟨v,hv,hc,_⟩:=h2 a ha
 exact ⟨v,hv,by rw [coh h1,List.getElem?_toArray];exact hc⟩
theorem bit_test (wd k:Nat) (hw:wd<18446744073709551616):(bits .and .u64 ((wd:Int) / 2 ^ k) 1 == 0) = !wd.testBit k:=by
 have h1:((wd:Int) / 2 ^ k)=((wd / 2 ^ k:Nat):Int):=by rw [Int.natCast_ediv,Int.natCast_pow];rfl
 have h2:wd / 2 ^ k<18446744073709551616:=Nat.lt_of_le_of_lt (Nat.div_le_self _ _) hw
 have h3:=bits_and_u64_nat (wd / 2 ^ k) 1 h2 (by decide)
 rw [h1]
 rw [show ((1:Nat):Int)=1 from rfl] at h3
 rw [h3,Nat.and_one_is_mod,Nat.testBit_eq_decide_div_mod_eq,Bool.eq_iff_iff]
 simp
 omega
theorem imGet_any (im:Nat) (fs:Nat->Option UInt8) (a:Nat) (ha:a<65536) (w:World) (h:ImAt w im fs) :
  Calls Tryz.prog 268 #[.pointer (some ⟨im,0,none⟩),.int .u16 a] w fun e w'=>(∃ v:Nat,e=.returned (.tuple #[.int .u8 v,.bool (fs a).isSome]))/\w=w':=by
 obtain ⟨wd,hw,hc,hb⟩:=h.word a ha
 obtain ⟨v,hv,hcv⟩:=h.byte a ha
 rw [← hb]
 clear h
 have e1:=bit_test wd (a % 64) hw
 cases ht:wd.testBit (a % 64) with
 | false=>
  rw [ht] at e1
  simp only [Bool.not_false] at e1
  go_enter Tryz.func268, Tryz.ntmps268
  go_wp2_with fail
  go_ret2
  exact ⟨⟨0,rfl⟩,rfl⟩
 | true=>
  rw [ht] at e1
  simp only [Bool.not_true] at e1
  go_enter Tryz.func268, Tryz.ntmps268
  go_wp2_with fail
  go_ret2
  exact ⟨⟨v,rfl⟩,rfl⟩
def clashF (fs:Nat->Option UInt8) (pl:Nat) (b:List UInt8):Bool:=(List.range b.length).any fun i=>(fs (pl+i)).isSome
def imK (fs:Nat->Option UInt8) (pl:Nat) (b:List UInt8):Nat:=if 65536<b.length∨65536 - b.length<pl then 7 else if clashF fs pl b then 6 else 0
def ImPut (im:Nat) (fs:Nat->Option UInt8) (pl:Nat) (b:List UInt8) (w:World) (e:Ending) (w':World):Prop:=
 e=.returned (.int .i64 (imK fs pl b:Nat))/\ImAt w' im (if imK fs pl b=0 then updF fs pl b else fs)/\w.heap.size<=w'.heap.size/\(∀ k,k<w.heap.size->k≠im->w'.heap[k]? = w.heap[k]?)/\Still w w'
theorem ImPut.bad {im:Nat} {fs:Nat->Option UInt8} {pl:Nat} {b:List UInt8} {w:World} (K:Nat) (hK:imK fs pl b=K) (h0:K≠0) (h:ImAt w im fs):ImPut im fs pl b w (.returned (.int .i64 (K:Nat))) w:=
 ⟨by rw [hK],by rw [hK,if_neg h0];exact h,Nat.le_refl _,fun _ _ _=>rfl,Still.refl _⟩
theorem upd_some (fs:Nat->Option UInt8) (pl:Nat) (b:List UInt8) (a:Nat):(updF fs pl b a).isSome=((fs a).isSome || (decide (pl<=a) && decide (a<pl+b.length))):=by
 unfold updF
 by_cases h:pl<=a/\a<pl+b.length
 ·rw [if_pos h,List.getElem?_eq_getElem (by omega)]
  simp [h.1,h.2]
 ·rw [if_neg h,show (decide (pl<=a) && decide (a<pl+b.length))=false by rw [Bool.and_eq_false_iff];simp;omega,Bool.or_false]
theorem clash_yes {fs:Nat->Option UInt8} {pl:Nat} {b:List UInt8} (k:Nat) (hk:k<b.length) (h:(fs (pl+k)).isSome=true):clashF fs pl b=true:=List.any_eq_true.2 ⟨k,List.mem_range.2 hk,h⟩
theorem clash_no {fs:Nat->Option UInt8} {pl:Nat} {b:List UInt8} (h:∀ j,j<b.length->(fs (pl+j)).isSome=false):clashF fs pl b=false:=by
 rw [← Bool.not_eq_true]
 intro hc
 obtain ⟨j,hj,hs⟩:=List.any_eq_true.1 hc
 rw [h j (List.mem_range.1 hj)] at hs
 cases hs
theorem len_im:Tryz.prog.arrayLen 278=65536:=by unfold Program.arrayLen;rw [Tryz.underlying278]
theorem elem_im:Tryz.prog.elem 278=5:=by unfold Program.elem;rw [Tryz.underlying278]
theorem slice_im (im pl:Nat) (h:pl<65536) (W:World):(Instr.sliceAt 278 (.pointer (some ⟨im,0,none⟩)) (some (.int .i64 (pl:Int))) none none).run Tryz.prog W=.ok (.slice (some ⟨im,pl,none⟩) (65536 - pl) (65536 - pl)) W:=by
 have ht:Tryz.prog.underlying 278=some (.array (Tryz.prog.arrayLen 278) (Tryz.prog.elem 278)):=by rw [len_im,elem_im];exact Tryz.underlying278
 rw [run_sliceAt_array_l W 278 ⟨im,0,none⟩ ht .i64 (pl:Int) (by omega) (by rw [len_im];omega),elem_im,len_im,Tryz.sizeOf5]
 have hne:(65536:Nat)≠pl:=by omega
 simp [slicedAt,Addr.add,Result.andThen,hne]
 exact fun h0=>h0.symm
theorem slice_im0 (im pl:Nat) (h:pl<=65536):∃ X,∀ W,(Instr.sliceAt 278 (.pointer (some ⟨im,0,none⟩)) (some (.int .i64 (pl:Int))) none none).run Tryz.prog W=.ok (.slice (some X) (65536 - pl) (65536 - pl)) W:=by
 have ht:Tryz.prog.underlying 278=some (.array (Tryz.prog.arrayLen 278) (Tryz.prog.elem 278)):=by rw [len_im,elem_im];exact Tryz.underlying278
 refine ⟨if 65536=pl then ⟨im,0,none⟩ else (⟨im,0,none⟩:Addr).add (pl * 1),fun W=>?_⟩
 rw [run_sliceAt_array_l W 278 ⟨im,0,none⟩ ht .i64 (pl:Int) (by omega) (by rw [len_im];omega),elem_im,len_im,Tryz.sizeOf5]
 simp [slicedAt,Result.andThen]
theorem bit_or (wd k:Nat) (hw:wd<18446744073709551616) (hk:k<64):bits .or .u64 (wd:Int) (IntKind.u64.wrap (2 ^ k))=((wd ||| 2 ^ k:Nat):Int):=by
 have h2:2 ^ k<18446744073709551616:=Nat.pow_lt_pow_right (n:=64) (a:=2) (by omega) hk
 have h3:((2:Int) ^ k)=((2 ^ k:Nat):Int):=by rw [Int.natCast_pow];rfl
 have h4:=bits_or_u64_nat wd (2 ^ k) hw h2
 rw [h3]
 generalize 2 ^ k=p at *
 rw [IntWalk.u64_in _ (by omega)]
 exact h4
theorem imPut_any (im:Nat) (fs:Nat->Option UInt8) (pl:Nat) (hp:pl<=1000000) (b:List UInt8) (v:Value) (hl:b.length<=1000000) (w:World) (h:ImAt w im fs) (hv:RdB w w.heap.size v b) (hne:b≠[]->v.ownBlock≠some im) :
  Calls Tryz.prog 252 #[.pointer (some ⟨im,0,none⟩),.int .i64 pl,v] w (ImPut im fs pl b w):=by
 obtain ⟨A,c,rfl,hc⟩:=hv.form
 have H:=LH h
 have HV:=LH hv
 clear h hv
 have e1:decide ((pl:Int)<0)=false:=by simp
 have e1':¬ (pl:Int)<0:=by omega
 by_cases h1:65536<b.length
 ·have e2:(65536:Int)<(b.length:Int):=by omega
  have HK:Hid (imK fs pl b=7):=LH (by unfold imK;rw [if_pos (.inl h1)])
  clear h1
  go_enter Tryz.func252, Tryz.ntmps252
  go_wp2_with fail
  go_ret
  exact ImPut.bad 7 HK.out (by decide) H.out
 by_cases h2:65536 - b.length<pl
 ·have e2:decide ((65536:Int)<(b.length:Int))=false:=by simp;omega
  have e2':¬ (65536:Int)<(b.length:Int):=by omega
  have e3:(65536:Int) - (b.length:Int)<(pl:Int):=by omega
  have HK:Hid (imK fs pl b=7):=LH (by unfold imK;rw [if_pos (.inr h2)])
  clear h1 h2
  go_enter Tryz.func252, Tryz.ntmps252
  go_wp2_with fail
  go_ret
  exact ImPut.bad 7 HK.out (by decide) H.out
 have e2:decide ((65536:Int)<(b.length:Int))=false:=by simp;omega
 have e2':¬ (65536:Int)<(b.length:Int):=by omega
 have e3:decide ((65536:Int) - (b.length:Int)<(pl:Int))=false:=by simp;omega
 have e3':¬ (65536:Int) - (b.length:Int)<(pl:Int):=by omega
 have HK:Hid (imK fs pl b=if clashF fs pl b then 6 else 0):=LH (by unfold imK;rw [if_neg (by omega)])
 have hpl:pl+b.length<=65536:=by omega
 clear h1 h2
 go_enter Tryz.func252, Tryz.ntmps252
 go_wp2_with fail
 go_loopw [28] (fun i wr=>∃ k:Nat,k<=b.length/\i=.int .i64 k/\w=wr/\Hid (∀ j,j<k->(fs (pl+j)).isSome=false)) (fun i _=>b.length - (intOf i).toNat)
 case atStart=>exact ⟨0,Nat.zero_le _,rfl,rfl,LH (fun j hj=>by omega)⟩
 case round=>
  obtain ⟨k,hk,rfl,rfl,hno⟩:=hrel
  by_cases hlt:k<b.length
  ·have i1:(k:Int)<(b.length:Int):=by omega
   have HG:Hid (∀ W,ImAt W im fs->Calls Tryz.prog 268 #[.pointer (some ⟨im,0,none⟩),.int .u16 ((pl:Int)+(k:Int))] W fun e w'=>(∃ v:Nat,e=.returned (.tuple #[.int .u8 v,.bool (fs (pl+k)).isSome]))/\W=w'):=LH (fun W hW=>by
    have:=imGet_any im fs (pl+k) (by omega) W hW
    rwa [Int.natCast_add] at this)
   have c1:IntKind.u16.wrap ((pl:Int)+(k:Int))=((pl+k:Nat):Int):=by rw [IntWalk.u16_in _ (by omega)];omega
   cases hs:(fs (pl+k)).isSome with
   | true=>
    have HK2:Hid (imK fs pl b=6):=LH (by rw [HK.out,clash_yes k hlt hs];rfl)
    rw [hs] at HG
    clear hno
    go_wp2_with fail
    refine (HG.out _ H.out).mono ?_
    rintro e w1 ⟨⟨v1,rfl⟩,rfl⟩
    go_wp2_with fail
    go_ret
    exact ImPut.bad 6 HK2.out (by decide) H.out
   | false=>
    have HNO:Hid (∀ j,j<k+1->(fs (pl+j)).isSome=false):=LH (fun j hj=>by
     by_cases hjk:j=k
     ·rw [hjk];exact hs
     ·exact hno.out j (by omega))
    rw [hs] at HG
    clear hno hs
    go_wp2_with fail
    refine (HG.out _ H.out).mono ?_
    rintro e w1 ⟨⟨v1,rfl⟩,rfl⟩
    go_wp2_with fail
    go_roundw
    case rel=>exact ⟨k+1,by omega,by go_num,by first | rfl | trivial,HNO.out⟩
    case measure=>simp [intOf];omega
  ·obtain rfl:k=b.length:=by omega
   have HK0:Hid (imK fs pl b=0):=LH (by rw [HK.out,clash_no hno.out];rfl)
   clear hno HK
   obtain ⟨cur,hcur,himb⟩:=H.out
   have HB:=LH himb
   have HC:=LH hcur
   clear himb
   by_cases hb0:b = []
   ·subst hb0
    obtain ⟨X,hsl⟩:=slice_im0 im pl (by omega)
    have hcp:∀ ty,(Builtin.copy_ #[75,75] ty #[.slice (some X) (65536 - pl) (65536 - pl),.slice A 0 c]).run Tryz.prog w=.ok (.int .i64 0) w:=fun ty=>
     run_copy_none (P:=Tryz.prog) w 75 75 ty 5 (some X) A _ _ 0 c Tryz.underlying75 (by kernel_rfl) (Nat.zero_min _)
    have HU:Hid (updF fs pl []=fs):=LH (by funext x;unfold updF;rw [if_neg (by simp)])
    clear HC HB HV hcur
    go_wp2_with fail
    go_loopw [51] (fun i wr=>i=.int .i64 0/\w=wr) (fun _ _=>0)
    case atStart=>exact ⟨rfl,rfl⟩
    case round=>
     obtain ⟨rfl,rfl⟩:=hrel
     go_wp2_with fail
     go_ret
     refine ⟨by rw [HK0.out];rfl,?_,Nat.le_refl _,fun x _ hx=>rfl,Still.refl _⟩
     rw [HK0.out,if_pos rfl,HU.out]
     exact H.out
   ·have hpos:0<b.length:=List.length_pos_iff.2 hb0
    have hsl:=slice_im im pl (by omega)
    obtain ⟨g,o,rfl,hg,hcell⟩:=HV.out.get 0 hpos
    have HCL:=LH hcell
    have hgne:g≠im:=fun e=>hne hb0 (by rw [e];rfl)
    have hrun:∀ ty,(Builtin.copy_ #[75,75] ty #[.slice (some ⟨im,pl,none⟩) (65536 - pl) (65536 - pl),.slice (some ⟨g,o,none⟩) b.length c]).run Tryz.prog w=.ok (.int .i64 (b.length:Nat)) (w.setRow im (splice cur pl (b.map bv)).toArray):=fun ty=>by
     have:=run_copy_row (P:=Tryz.prog) w 75 75 ty 5 im pl (65536 - pl) (65536 - pl) ⟨g,o,none⟩ b.length c cur.toArray 281 (b.map bv) Tryz.underlying75 (by kernel_rfl) HC.out
      (by rw [List.length_map];exact (Nat.min_eq_left (by omega)).symm) (fun j v hj=>by
       have hjl:j<b.length:=by
        have:=(List.getElem?_eq_some_iff.1 hj).1
        rwa [List.length_map] at this
       have h2:=HCL.out j hjl
       rw [List.getElem?_map,List.getElem?_eq_getElem hjl] at hj
       injection hj with hj
       rw [← hj]
       have h3:(⟨g,o,none⟩:Addr).add j=⟨g,o+j,none⟩:=by simp [Addr.add]
       rw [h3,h2]
       simp [bv,byteN,hjl]) (by simp;have:=HB.out.1;omega) (fun v hv=>by
       obtain ⟨x,_,rfl⟩:=List.mem_map.1 hv
       rfl)
     rw [this]
     simp [splice,goInt]
    have P1:=LH (setRow_heap w im cur.toArray (splice cur pl (b.map bv)).toArray 281 (0,0) HC.out)
    have P2:Hid (∀ k,k≠im->(w.setRow im (splice cur pl (b.map bv)).toArray).heap[k]? = w.heap[k]?):=LH (fun k hk=>setRow_other w im k _ hk)
    have P3:Hid ((w.setRow im (splice cur pl (b.map bv)).toArray).heap.size=w.heap.size):=LH (by simp [World.setRow])
    have P5:Hid (Still w (w.setRow im (splice cur pl (b.map bv)).toArray)):=LH ⟨rfl,rfl,rfl⟩
    have P4:=LH (HB.out.bytes pl b hpl)
    generalize w.setRow im (splice cur pl (b.map bv)).toArray=w2 at *
    generalize splice cur pl (b.map bv)=cur2 at *
    clear HC HB HCL HV hcur
    go_wp2_with fail
    go_loopw [51] (fun i wr=>∃ k:Nat,k<=b.length/\i=.int .i64 k/\(wr.heap.size=w.heap.size/\Still w wr)/\(∀ x,x≠im->wr.heap[x]? = w.heap[x]?) /\
     ∃ cu:List Value,wr.heap[im]? = some (.cells cu.toArray 281 (0,0))/\ImB cu (updF fs pl b) (fun a=>(fs a).isSome || (decide (pl<=a) && decide (a<pl+k)))) (fun i _=>b.length - (intOf i).toNat)
    case atStart=>exact ⟨0,Nat.zero_le _,rfl,⟨P3.out,P5.out⟩,P2.out,cur2,P1.out,by
     have:=P4.out
     refine ⟨this.1,this.2.1,fun j hj=>?_⟩
     obtain ⟨wd,h1,h2,h3⟩:=this.2.2 j hj
     refine ⟨wd,h1,h2,fun i hi=>?_⟩
     rw [h3 i hi]
     show _=((fs (64 * j+i)).isSome || (decide (pl<=64 * j+i) && decide (64 * j+i<pl+0)))
     rw [show (decide (pl<=64 * j+i) && decide (64 * j+i<pl+0))=false by rw [Bool.and_eq_false_iff];simp;omega,Bool.or_false]⟩
    case round=>
     obtain ⟨k,hk,rfl,hsz0,hot,cu,hcu,hib⟩:=hrel
     have HSZ:=LH hsz0
     clear hsz0
     by_cases hlt:k<b.length
     ·have i1:(k:Int)<(b.length:Int):=by omega
      obtain ⟨a,ha⟩:∃ a,a=pl+k:=⟨_,rfl⟩
      have ha2:(pl:Int)+(k:Int)=(a:Int):=by omega
      have hal:a<65536:=by omega
      obtain ⟨wd,hw,hwc,_,hnew⟩:=hib.word a hal
      have kw:=coh (i:=65536+a / 64) hcu
      have fw:=foh (i:=65536+a / 64) hcu
      rw [List.getElem?_toArray,hwc] at kw
      simp at fw
      have HCU:=LH hcu
      have HOT:=LH hot
      have HNEW:=LH hnew
      have HA:=LH ha
      have d1:Int.tdiv (a:Int) 64=((a / 64:Nat):Int):=by rw [Int.tdiv_eq_ediv_of_nonneg (by omega)];omega
      have d2:Int.tmod (a:Int) 64=((a % 64:Nat):Int):=by rw [Int.tmod_eq_emod_of_nonneg (by omega)];omega
      clear hcu hot hnew hwc hib ha
      go_wp2_with fail
      go_region
      have HN2:Hid (ImB (cu.set (65536+a / 64) (.int .u64 (bits .or .u64 (wd:Int) (IntKind.u64.wrap (2 ^ (a % 64)))))) (updF fs pl b) (fun x=>(fs x).isSome || (decide (pl<=x) && decide (x<pl+(k+1))))):=LH (by
       rw [bit_or wd (a % 64) hw (Nat.mod_lt _ (by decide))]
       have:=HNEW.out
       refine ⟨this.1,this.2.1,fun j hj=>?_⟩
       obtain ⟨wd',h1,h2,h3⟩:=this.2.2 j hj
       refine ⟨wd',h1,h2,fun i hi=>?_⟩
       rw [h3 i hi]
       have hA:=HA.out
       show ((fs (64 * j+i)).isSome || (decide (pl<=64 * j+i) && decide (64 * j+i<pl+k)) || (64 * j+i == a))=((fs (64 * j+i)).isSome || (decide (pl<=64 * j+i) && decide (64 * j+i<pl+(k+1))))
       rw [Bool.or_assoc]
       congr 1
       rw [Bool.eq_iff_iff]
       simp
       omega)
      have HC2:Hid ((wr.setCell ⟨im,65536+a / 64,none⟩ (.int .u64 (bits .or .u64 (wd:Int) (IntKind.u64.wrap (2 ^ (a % 64)))))).drew.heap[im]? = some (.cells (cu.set (65536+a / 64) (.int .u64 (bits .or .u64 (wd:Int) (IntKind.u64.wrap (2 ^ (a % 64)))))).toArray 281 (0,0))):=LH (by
       show (wr.setCell ⟨im,65536+a / 64,none⟩ _).heap[im]? = _
       rw [heap_set _ HCU.out]
       simp)
      have HO2:Hid (∀ x,x≠im->(wr.setCell ⟨im,65536+a / 64,none⟩ (.int .u64 (bits .or .u64 (wd:Int) (IntKind.u64.wrap (2 ^ (a % 64)))))).heap[x]? = w.heap[x]?):=LH (fun x hx=>(Below.heap_setCell _ _ _ x hx).trans (HOT.out x hx))
      clear HNEW HCU HOT kw fw
      go_wp2_with fail
      go_roundw
      case rel=>exact ⟨k+1,by omega,by go_num,⟨by simpa using HSZ.out.1,HSZ.out.2⟩,HO2.out,_,HC2.out,HN2.out⟩
      case measure=>simp [intOf];omega
     ·obtain rfl:k=b.length:=by omega
      have HIM:Hid (ImB cu (updF fs pl b) (fun a=>(updF fs pl b a).isSome)):=LH (by
       refine ⟨hib.1,hib.2.1,fun j hj=>?_⟩
       obtain ⟨wd',h1,h2,h3⟩:=hib.2.2 j hj
       refine ⟨wd',h1,h2,fun i hi=>?_⟩
       rw [h3 i hi]
       show ((fs (64 * j+i)).isSome || (decide (pl<=64 * j+i) && decide (64 * j+i<pl+b.length)))=_
       exact (upd_some fs pl b (64 * j+i)).symm)
      have HCU:=LH hcu
      have HOT:=LH hot
      clear hcu hot hib
      go_wp2_with fail
      go_ret
      refine ⟨by rw [HK0.out];rfl,?_,by have:=HSZ.out.1;omega,fun x _ hx=>HOT.out x hx,HSZ.out.2⟩
      rw [HK0.out,if_pos rfl]
      exact ⟨cu,HCU.out,HIM.out⟩
theorem putIK_eq (ls:List Lin) (pl:Nat) (b:List UInt8):putIK ls pl b=imK (imgL ls) pl b:=rfl
theorem imgL_snoc (ls:List Lin) (l:Lin) (a:Nat):imgL (ls++[l]) a=(imgL ls a).or (linB l a):=by
 unfold imgL
 rw [List.findSome?_append]
 simp
theorem upd_img1 (ls:List Lin) (l:Lin) (h:clashF (imgL ls) l.pl l.b=false):updF (imgL ls) l.pl l.b=imgL (ls++[l]):=by
 funext a
 rw [imgL_snoc]
 unfold updF linB
 by_cases ha:l.pl<=a/\a<l.pl+l.b.length
 ·rw [if_pos ha,if_pos ha]
  cases hs:imgL ls a with
  | none=>rfl
  | some x=>
   have:=clash_yes (fs:=imgL ls) (pl:=l.pl) (b:=l.b) (a - l.pl) (by omega) (by rw [show l.pl+(a - l.pl)=a by omega,hs];rfl)
   rw [this] at h
   cases h
 ·rw [if_neg ha,if_neg ha]
  simp
theorem upd_img (ls:List Lin) (l:Lin) (pl:Nat) (hpl:l.pl=pl % 65536) (h:imK (imgL ls) pl l.b=0):updF (imgL ls) pl l.b=imgL (ls++[l]):=by
 unfold imK at h
 split at h
 ·cases h
 ·next h1=>
  split at h
  ·cases h
  ·next h2=>
   by_cases hb:l.b = []
   ·rw [← upd_img1 ls l (by rw [hb];rfl),hb]
    funext a
    unfold updF
    rw [if_neg (by simp),if_neg (by simp)]
   ·have h3:0<l.b.length:=List.length_pos_iff.2 hb
    obtain rfl:l.pl=pl:=by rw [hpl];omega
    exact upd_img1 ls l (by simpa using h2)
theorem setT_len (t:Tb) (m:List UInt8) (n how:Nat) (ht:t.length<=2048) (h:putK t m how=0):(setT t m n how).length<=2048:=by
 unfold setT
 split
 ·rw [List.length_map];exact ht
 ·next h2=>
  have hg:getT t m=none:=by simpa using h2
  unfold putK at h
  split at h
  ·cases h
  ·rw [hg] at h
   simp only at h
   split at h
   ·cases h
   ·rw [List.length_append];simp;omega
theorem forgetT_len (t:Tb):(forgetT t).length<=t.length:=List.length_filter_le _ _
theorem layA_few (sec:Bool) (g:Eg) (l:Lin) (size:Nat):(layA sec g l size).1.lines.length<=g.lines.length+1/\(layA sec g l size).1.used=g.used:=by
 unfold layA
 split
 ·simp
 ·split
  ·simp
  ·split <;> simp
theorem symA_few (g:Eg) (m:List UInt8) (n how:Nat):(symA g m n how).1.lines=g.lines/\(symA g m n how).1.used=g.used:=by
 unfold symA
 split <;> simp
theorem directA_few (sec:Bool) (s:St) (i:Nat) (g:Eg):(directA sec s i g).1.lines.length<=g.lines.length+1/\(directA sec s i g).1.used=g.used:=by
 unfold directA
 repeat' split
 all_goals first
  | exact layA_few _ _ _ _
  | (rw [(symA_few _ _ _ _).1,(symA_few _ _ _ _).2];simp)
  | simp
theorem instrA_few (sec:Bool) (c:Cd) (s:St) (i:Nat) (g:Eg):(instrA sec c s i g).1.lines.length<=g.lines.length+1/\(instrA sec c s i g).1.used=g.used:=by
 unfold instrA
 repeat' split
 all_goals first
  | exact layA_few _ _ _ _
  | simp
theorem bodyA_few (fd:Fd) (sec:Bool) (s:St) (i:Nat) (g:Eg):(bodyA fd sec s i g).1.lines.length<=g.lines.length+1/\(bodyA fd sec s i g).1.used=g.used:=by
 unfold bodyA
 split
 ·exact directA_few _ _ _ _
 ·split
  ·exact instrA_few _ _ _ _ _
  ·simp
theorem branchA_few (s:St) (i:Nat) (g:Eg):(branchA s i g).1.lines=g.lines/\(branchA s i g).1.used=g.used:=by
 unfold branchA
 repeat' split
 all_goals simp
theorem labelA_few (sec:Bool) (g:Eg) (m:List UInt8):(labelA sec g m).1.lines=g.lines/\(labelA sec g m).1.used=g.used:=by
 unfold labelA
 repeat' split
 all_goals first
  | exact symA_few _ _ _ _
  | simp
theorem oneA_few (fd:Fd) (sec:Bool) (s:St) (i:Nat) (g:Eg):(oneA fd sec s i g).1.lines.length<=g.lines.length+1/\(oneA fd sec s i g).1.used.length<=g.used.length+1:=by
 unfold oneA
 split
 ·rw [(branchA_few s i g).1,(branchA_few s i g).2];omega
 ·split
  ·simp
  ·split
   ·simp
   ·split
    ·split
     ·simp
     ·have h1:=bodyA_few fd sec s i (labelA sec { g with used:=g.used++[i+1] } s.label).1
      rw [h1.2,(labelA_few _ _ _).2]
      rw [(labelA_few _ _ _).1] at h1
      refine ⟨h1.1,by simp⟩
    ·have h1:=bodyA_few fd sec s i { g with used:=g.used++[i+1] }
     rw [h1.2]
     exact ⟨h1.1,by simp⟩
theorem passL_step (fd:Fd) (sec:Bool) (l:List St) (k:Nat) (hk:k<l.length) (g:Eg):passL fd sec (l.drop k) k g=if g.done then endA g else if (oneA fd sec l[k] k g).2≠0 then (g,k+1,(oneA fd sec l[k] k g).2) else passL fd sec (l.drop (k+1)) (k+1) (oneA fd sec l[k] k g).1:=by
 rw [List.drop_eq_getElem_cons hk,passL]
theorem endA_fst (g:Eg):(endA g).1=g:=by
 unfold endA
 split <;> rfl
theorem passL_few (fd:Fd) (sec:Bool) (l:List St):∀ i g,(passL fd sec l i g).1.used.length<=g.used.length+l.length/\(passL fd sec l i g).1.lines.length<=g.lines.length+l.length:=by
 induction l with
 | nil=>intro i g;rw [passL,endA_fst];exact ⟨by simp,by simp⟩
 | cons s r ih=>
  intro i g
  simp only [List.length_cons]
  rw [passL]
  split
  ·rw [endA_fst];omega
  ·split
   ·simp only;omega
   ·have h1:=ih (i+1) (oneA fd sec s i g).1
    have h2:=oneA_few fd sec s i g
    omega
theorem runF_few (F:Fd) (l:List St):(runF F l).1.used.length<=l.length/\(runF F l).1.lines.length<=l.length:=by
 unfold runF
 split
 all_goals
  have h:=passL_few F
  unfold passA
  refine ⟨Nat.le_trans (h _ _ _ _).1 (by simp [eg0]),Nat.le_trans (h _ _ _ _).2 (by simp [eg0])⟩
theorem endA_zero (g:Eg) (h:(endA g).2.2=0):(endA g).2.1=0:=by
 unfold endA at h ⊢
 split
 ·next h1=>rw [if_pos h1] at h;simp at h
 ·rfl
theorem passL_zero (fd:Fd) (sec:Bool) (l:List St):∀ i g,(passL fd sec l i g).2.2=0->(passL fd sec l i g).2.1=0:=by
 induction l with
 | nil=>intro i g h;rw [passL] at h ⊢;exact endA_zero g h
 | cons s r ih=>
  intro i g h
  rw [passL] at h ⊢
  split at h
  ·next h1=>rw [if_pos h1];exact endA_zero g h
  ·next h1=>
   rw [if_neg h1]
   split at h
   ·next h2=>exact absurd h h2
   ·next h2=>rw [if_neg h2];exact ih _ _ h
end Go.Proofs.YtbdnbfacalfciaaGreatDoor
