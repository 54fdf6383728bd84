/- Kd. -/
import Derived.Test.YtbdnbfacalfciaaGreatDoorRows
import Derived.Test.YtbdnbfacalfciaaGreatDoorKa
import Derived.BigRegion
import Derived.Test.YtbdnbfacalfciaaGreatDoorShelf
import Derived.Lib.SlBytesConst
import Derived.Deep.QuietTactic
import Derived.BigQuiet
import Derived.Deep.DeepCutAuto
import Derived.Deep.CutBlock
namespace Go.Proofs.YtbdnbfacalfciaaGreatDoor
set_option maxHeartbeats 1000000
open Go.RowKit
def RevAt (xs ys:List UInt8) (k:Nat):Prop:=ys.length=xs.length/\∀ t,t<xs.length->ys[t]? = if t<k∨xs.length - k<=t then xs[xs.length - 1 - t]? else xs[t]?
theorem RevAt.zero (xs:List UInt8):RevAt xs xs 0:=⟨rfl,fun t ht=>by rw [if_neg (by omega)]⟩
theorem RevAt.step {xs ys:List UInt8} {k:Nat} (h:RevAt xs ys k) (hk:k<xs.length - 1 - k) (hi:k<ys.length) (hj:xs.length - 1 - k<ys.length) :
  RevAt xs ((ys.set k ys[xs.length - 1 - k]).set (xs.length - 1 - k) ys[k]) (k+1):=by
 refine ⟨by simp [h.1],fun t ht=>?_⟩
 have hi':=h.2 k (by omega)
 have hj':=h.2 (xs.length - 1 - k) (by omega)
 rw [if_neg (by omega)] at hi' hj'
 rw [List.getElem?_eq_getElem hi] at hi'
 rw [List.getElem?_eq_getElem hj] at hj'
 rw [List.getElem?_set,List.getElem?_set]
 by_cases e1:xs.length - 1 - k=t
 ·rw [if_pos e1,if_pos (by simp;omega),if_pos (by omega),hi']
  congr 1;omega
 ·rw [if_neg e1]
  by_cases e2:k=t
  ·rw [if_pos e2,if_pos (by omega),if_pos (by omega),hj']
   congr 1;omega
  ·rw [if_neg e2,h.2 t ht]
   by_cases c:t<k∨xs.length - k<=t
   ·rw [if_pos c,if_pos (by omega)]
   ·rw [if_neg c,if_neg (by omega)]
theorem RevAt.end_ {xs ys:List UInt8} {k:Nat} (h:RevAt xs ys k) (hk:xs.length<=2 * k+1):ys=xs.reverse:=by
 apply List.ext_getElem?
 intro t
 by_cases ht:t<xs.length
 ·rw [h.2 t ht,List.getElem?_reverse ht]
  split
  ·rfl
  ·congr 1;omega
 ·rw [List.getElem?_eq_none (by rw [h.1];omega),List.getElem?_eq_none (by simp;omega)]
theorem row_set {ys:List UInt8} {pad:List Value} {i:Nat} (hi:i<ys.length) (c:UInt8):(ys.map bv++pad).toArray.setIfInBounds i (bv c)=((ys.set i c).map bv++pad).toArray:=by
 apply Array.ext'
 simp [hi,List.map_set]
theorem row_at {ys:List UInt8} {pad:List Value} {i:Nat} (hi:i<ys.length):(ys.map bv++pad).toArray[i]? = some (bv ys[i]):=by
 simp [List.getElem?_append,hi]
theorem reverse_any (xs:List UInt8) (pad:List Value) (g cap:Nat) (w:World) (hl:xs.length<=1000000) (hg:w.heap[g]? = some (.cells (xs.map bv++pad).toArray 5 (0,0))) :
  Calls Tryz.prog 230 #[.slice (some ⟨g,0,none⟩) xs.length cap] w fun e w'=>e=.returned (.tuple #[])/\w.grownBy w' (some g)/\w'.heap[g]? = some (.cells (xs.reverse.map bv++pad).toArray 5 (0,0)):=by
 go_enter Tryz.func230, Tryz.ntmps230
 go_wp2
 go_loopw [2,3] (fun i j wr=>∃ (k:Nat) (ys:List UInt8),i=.int .i64 k/\j=.int .i64 ((xs.length:Int) - 1 - k)/\k<=xs.length/\RevAt xs ys k/\w.grownBy wr (some g)/\wr.heap[g]? = some (.cells (ys.map bv++pad).toArray 5 (0,0))) (fun i _ _=>xs.length - (intOf i).toNat)
 case atStart=>exact ⟨0,xs,rfl,by simp,Nat.zero_le _,RevAt.zero xs,World.grownBy.refl _ _,hg⟩
 case round=>
  obtain ⟨k,ys,rfl,rfl,hk,hr,hgr,hh⟩:=hrel
  clear hg
  by_cases hlt:(k:Int)<(xs.length:Int) - 1 - k
  ·obtain ⟨j,hj⟩:∃ j:Nat,(xs.length:Int) - 1 - k=(j:Int):=⟨xs.length - 1 - k,by omega⟩
   have hj1:k<j:=by omega
   have hj2:j<xs.length:=by omega
   have HJ:Hid (j=xs.length - 1 - k):=LH (by omega)
   rw [hj]
   clear hj hlt
   have hyl:=hr.1
   have hki:k<ys.length:=by omega
   have hji:j<ys.length:=by omega
   have c1:wr.cell? ⟨g,k,none⟩=some (.int .u8 ((ys[k].toNat:Nat):Int)):=by rw [coh hh,row_at hki];rfl
   have c2:wr.cell? ⟨g,j,none⟩=some (.int .u8 ((ys[j].toNat:Nat):Int)):=by rw [coh hh,row_at hji];rfl
   have f1:wr.frozen? ⟨g,k,none⟩=false:=by rw [foh hh];simp
   have f2:wr.frozen? ⟨g,j,none⟩=false:=by rw [foh hh];simp
   have R:Hid (RevAt xs ((ys.set k ys[j]).set j ys[k]) (k+1)):=by
    have e:=HJ.out;subst e;exact hr.step hj1 hki hji
   have HH:∀ wz:World,wz.heap[g]? = some (.cells (ys.map bv++pad).toArray 5 (0,0))->((wz.setCell ⟨g,k,none⟩ (bv ys[j])).setCell ⟨g,j,none⟩ (bv ys[k])).heap[g]? = some (.cells (((ys.set k ys[j]).set j ys[k]).map bv++pad).toArray 5 (0,0)):=by
    intro wz hz
    rw [heap_set _ (heap_set _ hz),row_set hki,row_set (by simpa using hji)]
   have HK:=LH HH
   have H0:=LH hh
   have HY:=LH hyl
   have HR:=LH hr
   clear HH hh hyl hr
   go_wp2
   go_region
   go_wp2
   go_roundw
   case rel=>exact ⟨k+1,_,by go_num,by have:=HJ.out;rw [show (xs.length:Int) - 1 - ((k+1:Nat):Int)=(j:Int) - 1 by omega],by omega,R.out,only_drew (only_setCell (only_setCell hgr (.inl rfl) _) (.inl rfl) _),HK.out _ H0.out⟩
   case measure=>simp [intOf];omega
  ·have hlt':(xs.length:Int) - 1 - k<=k:=by omega
   go_wp2
   go_end0
   refine ⟨rfl,hgr,?_⟩
   rw [← List.map_reverse,← hr.end_ (by omega)];exact hh
theorem and15 (a:Nat) (ha:a<=65535):bits .and .u16 (a:Int) 15=((a % 16:Nat):Int):=by
 have hx:a % 16<16:=Nat.mod_lt _ (by omega)
 show IntKind.u16.wrap ((BitVec.ofInt 16 (a:Int) &&& BitVec.ofInt 16 (15:Int)).toNat:Int)=_
 have h1:(BitVec.ofInt 16 (a:Int)).toNat=a:=by rw [BitVec.ofInt_natCast,BitVec.toNat_ofNat];exact Nat.mod_eq_of_lt (by omega)
 have h2:(BitVec.ofInt 16 (15:Int)).toNat=15:=by decide
 rw [BitVec.toNat_and,h1,h2,Nat.and_two_pow_sub_one_eq_mod a 4]
 exact IntWalk.u16_in _ (by omega)
theorem digs_get (i:Nat) (h:i<[(48:UInt8),49,50,51,52,53,54,55,56,57,65,66,67,68,69,70].length):[(48:UInt8),49,50,51,52,53,54,55,56,57,65,66,67,68,69,70][i]'h=hexD i:=by
 have:∀ i:Fin 16,[(48:UInt8),49,50,51,52,53,54,55,56,57,65,66,67,68,69,70][i.val]'(by simp)=hexD i.val:=by decide +kernel
 exact this ⟨i,by simpa using h⟩
theorem show_small (n:Nat) (h:n<10):List.drop n (48 :: List.take n [49,50,51,52,53,54,55,56,57,65,66,67,68,69,70]) = [UInt8.ofNat (48+n)]:=by
 have:∀ n:Fin 10,List.drop n.val (48 :: List.take n.val [49,50,51,52,53,54,55,56,57,65,66,67,68,69,70]) = [UInt8.ofNat (48+n.val)]:=by decide +kernel
 exact this ⟨n,h⟩
set_option maxRecDepth 100000 in
theorem show_any (n:Nat) (w:World) (hn:n<=65535) :
  Calls Tryz.prog 196 #[.int .u16 (n:Int)] w fun e w'=>e=.returned (.string ⟨(showN n).toArray⟩)/\Below w.heap.size w w':=by
 obtain ⟨i0,hi,hz0,hz1,hz2⟩:=info_parts info_u8
 by_cases h10:n<10
 ·have hf:Hid (showN n = [UInt8.ofNat (48+n)]):=LH (by unfold showN;rw [if_pos h10])
  generalize showN n=sn at *
  have h1:(n:Int)<10:=by omega
  go_enter Tryz.func196, Tryz.ntmps196
  go_wp2_with fail
  go_ret
  refine ⟨?_,Below.refl _ _⟩
  rw [hf.out,← show_small n h10];rfl
 ·have hf:Hid (showN n=(let x:=72 :: hexR 5 n;if 57<(x.getLastD 0).toNat then x++[48] else x).reverse):=LH (by unfold showN;rw [if_neg h10])
  generalize showN n=sn at *
  have h1:(10:Int)<=(n:Int):=by omega
  go_enter Tryz.func196, Tryz.ntmps196
  go_wp2_with fail
  go_loopw [0,3] (fun m v wr=>∃ (m' f:Nat) (xs:List UInt8),m=.int .u16 m'/\m'<=n/\m'<16 ^ f/\xs++hexR f m'=72 :: hexR 5 n/\xs.length<=6/\wr.ownsRow w.heap.size 5 1 v xs.length (xs.map bv)/\Below w.heap.size w wr) (fun m _ _=>(intOf m).toNat)
  case atStart=>
   refine ⟨n,5,[72],rfl,Nat.le_refl _,by omega,rfl,by simp,⟨by simp,.inr ⟨w.heap.size,1,_,rfl,Nat.le_refl _,heap_alloc_new _ _,by simp,by decide,rfl,rfl⟩⟩,(Below.refl _ _).alloc (Nat.le_refl _) _⟩
  case round=>
   obtain ⟨m',f,xs,rfl,hm1,hm2,hx,hxl,hown,hb⟩:=hrel
   have HX:=LH hx
   have HM:=LH hm2
   clear hx hm2
   by_cases h0:0<m'
   ·have h0':(0:Int)<(m':Int):=by omega
    have hsz:=hb.size
    have ha:=and15 m' (by omega)
    have hlt:((m' % 16:Nat):Int)<16:=by omega
    go_wp2_with (at_builtin;refine append_byte wr rfl _ _ rfl w.heap.size hown rfl _ (hexD (m' % 16)) (by rw [digs_get]) rfl (by omega) hsz ?_)
    intro v' w1 hown' hb'
    have hb1:=hb.trans hb'
    clear hb hb' hown
    obtain ⟨f',hf1,hf2⟩:=hexR_step h0 HM.out HX.out
    have hl2:(xs++[hexD (m' % 16)]).length<=6:=by
     have h5:=congrArg List.length hf2
     have h6:=hexR_length 5 n
     simp only [List.length_append,List.length_cons] at h5 ⊢
     omega
    have H1:=LH hf1
    have H2:=LH hf2
    have H3:=LH hl2
    have H4:Hid (w1.ownsRow w.heap.size 5 1 v' (xs++[hexD (m' % 16)]).length ((xs++[hexD (m' % 16)]).map bv)):=by rw [List.length_append,List.map_append];exact LH hown'
    clear hf1 hf2 hl2 hown'
    go_wp2_with fail
    go_roundw
    case rel=>exact ⟨m' / 16,f',xs++[hexD (m' % 16)],by go_num,by omega,H1.out,H2.out,H3.out,H4.out,hb1⟩
    case measure=>simp [intOf];omega
   ·obtain rfl:m'=0:=by omega
    have hx:xs=72 :: hexR 5 n:=by have:=HX.out;rw [hexR_zero,List.append_nil] at this;exact this
    have hxl0:1<=xs.length:=by rw [hx];simp
    rw [← hx] at hf
    have HL:=LH (last_get xs hxl0)
    rw [HL.out] at hf
    obtain ⟨g,cap,pad,hv,hg0,hg,hcap⟩:=own_block hown hxl0
    have hcl:wr.cell? ⟨g,xs.length - 1,none⟩=some (.int .u8 ((xs[xs.length - 1].toNat:Nat):Int)):=by rw [coh hg,row_at (by omega)];rfl
    have Hg:=LH hg
    clear hx HX HM hg
    rw [hv]
    by_cases h57:57<xs[xs.length - 1].toNat
    ·have h57':(57:Int)<(xs[xs.length - 1].toNat:Int):=by omega
     rw [hv] at hown
     have hsz:=hb.size
     go_wp2_with (first | (at_builtin;refine append_byte wr rfl _ _ rfl w.heap.size hown rfl _ 48 rfl rfl (by omega) hsz ?_))
     intro v' w1 hown' hb'
     have hb1:=hb.trans hb'
     have hfin:Hid (sn=(xs++[48]).reverse):=by have:=hf.out;rw [if_pos h57] at this;exact LH this
     have ho2:w1.ownsRow w.heap.size 5 1 v' (xs++[48]).length ((xs++[48]).map bv):=by rw [List.length_append,List.map_append];exact hown'
     have hl2:(xs++[48]).length<=7:=by simp;omega
     have hl3:0<(xs++[48]).length:=by simp
     have HV:Hid (xs.length+1=(xs++[48]).length):=LH (by simp)
     clear hb hb' hown' hown hf Hg hcl hv HL h57 h57'
     generalize xs++[48]=ys at *
     obtain ⟨g',cap',pad',hv,hg0',hg',hcap'⟩:=own_block ho2 hl3
     rw [hv]
     clear ho2 hv
     have Hg:=LH hg'
     clear hg'
     go_wp2_with fail
     refine (reverse_any ys pad' g' cap' _ (by omega) Hg.out).mono ?_
     rintro e w2 ⟨rfl,hgr,hg2⟩
     have hcv:=conv_block (P:=Tryz.prog) w2 75 9 5 g' cap' ys.length ys.reverse pad' (0,0) Tryz.underlying75 Tryz.underlying5 Tryz.underlying9 (by simp) hg2
     have hb2:Below w.heap.size w w2:=hb1.grown hgr hb1.size (fun k hk=>by cases hk;exact hg0')
     clear hg2 hgr hb1
     go_wp2_with fail
     go_ret
     rw [hfin.out]
     exact ⟨rfl,hb2⟩
    ·have h57':(xs[xs.length - 1].toNat:Int)<=57:=by omega
     have hfin:Hid (sn=xs.reverse):=by have:=hf.out;rw [if_neg h57] at this;exact LH this
     go_wp2_with fail
     refine (reverse_any xs pad g cap _ (by omega) Hg.out).mono ?_
     rintro e w2 ⟨rfl,hgr,hg2⟩
     have hcv:=conv_block (P:=Tryz.prog) w2 75 9 5 g cap xs.length xs.reverse pad (0,0) Tryz.underlying75 Tryz.underlying5 Tryz.underlying9 (by simp) hg2
     have hb2:Below w.heap.size w w2:=hb.grown hgr hb.size (fun k hk=>by cases hk;exact hg0)
     clear hg2 hgr hb
     go_wp2_with fail
     go_ret
     rw [hfin.out]
     exact ⟨rfl,hb2⟩
def strV (s:List UInt8):Value:=.string ⟨s.toArray⟩
theorem join_any (xs:List (List UInt8)) (sep:List UInt8) (v:Value) (w:World) (hr:Rd w w.heap.size v xs.length (xs.map strV)) (hl:xs.length<=1000000) (hlen:(sep.intercalate xs).length<=1000000000) :
  Calls Tryz.prog 53 #[v,.string ⟨sep.toArray⟩] w fun e w'=>e=.returned (.string ⟨(sep.intercalate xs).toArray⟩)/\Below w.heap.size w w':=by
 obtain ⟨A,c,rfl,hc,h3⟩:=hr
 by_cases h0:xs = []
 ·subst h0
  refine (Tryz.strings_Join_none A c ⟨sep.toArray⟩ w).mono ?_
  rintro e w1 ⟨rfl,rfl⟩
  exact ⟨rfl,Below.refl _ _⟩
 ·have h0':0<xs.length:=List.length_pos_iff.mpr h0
  obtain ⟨g,o,rfl,hg,hcells⟩:=h3 h0'
  have e1:(xs.map fun t=>(⟨t.toArray⟩:ByteArray)).map (·.data.toList)=xs:=by rw [List.map_map];exact List.map_id xs
  have hj:=Tryz.strings_Join g o c (xs.map fun t=>⟨t.toArray⟩) ⟨sep.toArray⟩ w (fun j x hx=>by
   refine hcells j (.string x) ?_
   rw [List.getElem?_map] at hx ⊢
   cases hq:xs[j]? with
   | none=>rw [hq] at hx;simp at hx
   | some y=>rw [hq] at hx;simp at hx;simp [strV,hx]) hg (by simp;omega) (by simpa using hc) (by
   rw [e1]
   show (sep.intercalate xs).length<=_
   omega)
  rw [e1,List.length_map] at hj
  exact hj
def WAt (w:World) (ws:List (List UInt8)) (v:Value):Prop:=∃ g,v=.slice (some ⟨g,0,none⟩) ws.length ws.length/\g<w.heap.size/\∀ j (hj:j<ws.length),w.cell? ⟨g,j,none⟩=some (.string ⟨ws[j].toArray⟩)
theorem WAt.form {w:World} {ws:List (List UInt8)} {v:Value} (h:WAt w ws v):∃ g n,v=.slice (some ⟨g,0,none⟩) n n:=by obtain ⟨g,rfl,_⟩:=h;exact ⟨g,_,rfl⟩
theorem WAt.below {w w':World} {ws:List (List UInt8)} {v:Value} (h:WAt w ws v) (hb:Below w.heap.size w w'):WAt w' ws v:=by
 obtain ⟨g,rfl,hg,hc⟩:=h
 exact ⟨g,rfl,Nat.lt_of_lt_of_le hg hb.size,fun j hj=>(hb.cell (p:=⟨g,j,none⟩) hg).trans (hc j hj)⟩
theorem WAt.set {w:World} {ws:List (List UInt8)} {g b:Nat} (h:WAt w ws (.slice (some ⟨g,0,none⟩) ws.length ws.length)) (hne:g≠b) (i:Nat) (u:Value):WAt (w.setCell ⟨b,i,none⟩ u) ws (.slice (some ⟨g,0,none⟩) ws.length ws.length):=by
 obtain ⟨g',h1,hg,hc⟩:=h
 simp at h1
 subst h1
 exact ⟨g,rfl,by simpa [World.setCell] using hg,fun j hj=>(World.cell?_of_block (Below.heap_setCell w ⟨b,i,none⟩ u g hne)).trans (hc j hj)⟩
theorem fields_laid (w:World) (ws:List (List UInt8)):WAt (w.alloc (.cells (ws.map fun l=>Value.string ⟨l.toArray⟩).toArray 9)) ws (.slice (some ⟨w.heap.size,0,none⟩) ws.length ws.length):=
 ⟨_,rfl,by simp,fun j hj=>by rw [coh (heap_alloc_new w _)];simp [hj]⟩
theorem parts_cells (w:World) (A:Obj) (xs:List (List UInt8)) (t:TypeId):∀ j (hj:j<xs.length),((w.alloc A).alloc (.cells (xs.map fun l=>Value.string ⟨l.toArray⟩).toArray t)).cell? ⟨w.heap.size+1,j,none⟩=some (.string ⟨xs[j].toArray⟩):=by
 intro j hj
 have h:=heap_alloc_new (w.alloc A) (.cells (xs.map fun l=>Value.string ⟨l.toArray⟩).toArray t)
 rw [show (w.alloc A).heap.size=w.heap.size+1 by simp] at h
 rw [coh h]
 simp [hj]
def UnqAt (t xs:List UInt8) (k:Nat):Prop:=unq t=(unq (t.drop k)).map (xs ++ ·)
theorem UnqAt.zero (t:List UInt8):UnqAt t [] 0:=by unfold UnqAt;simp
theorem UnqAt.step {t xs:List UInt8} {k j:Nat} {c:UInt8} (h:UnqAt t xs k) (h2:unq (t.drop k)=(unq (t.drop j)).map (c :: ·)):UnqAt t (xs++[c]) j:=by
 unfold UnqAt at *
 rw [h,h2,Option.map_map]
 congr 1
 funext x;simp
theorem UnqAt.none {t xs:List UInt8} {k:Nat} (h:UnqAt t xs k) (h2:unq (t.drop k)=none):unq t=none:=by
 unfold UnqAt at h;rw [h,h2];rfl
theorem UnqAt.end_ {t xs:List UInt8} (h:UnqAt t xs t.length):unq t=some xs:=by
 unfold UnqAt at h;rw [h,List.drop_length,unq];simp
theorem info_str:(Tryz.prog.info? 9).map (fun i=>(i.zero,i.size,i.bytes))=some (some (.string ⟨#[]⟩),1,16):=by kernel_rfl
theorem one_str (b:ByteArray):∀ u∈[Value.string b],u.oneCell'=true:=by intro u hu;simp at hu;subst hu;rfl
theorem conv_one (W:World) (c:Int):(convert 75 9 (.slice (some ⟨W.heap.size,0,none⟩) 1 1)).run Tryz.prog (W.alloc (.cells #[.int .u8 c] 5))=.ok (.string ⟨[byteOf c].toArray⟩) (W.alloc (.cells #[.int .u8 c] 5)):=by
 have h:=run_convert_bytes_arg (P:=Tryz.prog) (W.alloc (.cells #[.int .u8 c] 5)) 75 5 Tryz.underlying75 Tryz.underlying5 W.heap.size 0 1 1 [c] rfl (fun i hi=>by
  obtain rfl:i=0:=by omega
  rw [coh (heap_alloc_new W _)];rfl) 9 Tryz.underlying9
 rw [h];rfl
end Go.Proofs.YtbdnbfacalfciaaGreatDoor
