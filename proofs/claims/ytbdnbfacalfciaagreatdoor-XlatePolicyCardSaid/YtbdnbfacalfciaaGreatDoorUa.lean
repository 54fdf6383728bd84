/- Ua. -/
import Derived.Test.YtbdnbfacalfciaaGreatDoorKa
import Derived.Test.YtbdnbfacalfciaaGreatDoorKb
import Derived.Maps.OwnOps
import Derived.Maps.OwnSet
import Derived.Maps.Views
import Derived.Test.YtbdnbfacalfciaaGreatDoorShelf
import Derived.Lib.Builder
import Derived.Lib.AppendStr
import Derived.Lib.UnsafeStr
import Derived.Laws.Externs
import Derived.RegionTactic
import Derived.Deep.RegionLaw
namespace Go.Proofs.YtbdnbfacalfciaaGreatDoor
set_option maxRecDepth 100000
set_option maxHeartbeats 2000000
def pickL (l:List (List UInt8)) (i:Nat):List UInt8:=l.getD i []
abbrev regW80:List (List UInt8):=[[66],[67],[68],[69],[72],[76],[77],[65]]
abbrev pairW80:List (List UInt8):=[[66],[68],[72],[83,80]]
abbrev condW80:List (List UInt8):=[[78,90],[90],[78,67],[67],[80,79],[80,69],[80],[77]]
abbrev stackW80:List (List UInt8):=[[66],[68],[72],[80,83,87]]
def reg80 (i:Nat):List UInt8:=pickL regW80 (i % 8)
def pair80 (i:Nat):List UInt8:=pickL pairW80 (i % 4)
def cond80 (i:Nat):List UInt8:=pickL condW80 (i % 8)
abbrev sD8:List UInt8:=[100,56]
abbrev sD16:List UInt8:=[100,49,54]
def low80 (op:Nat):List (List UInt8):=
 if op % 8=4 then [[73,78,82],reg80 (op / 8)]
 else if op % 8=5 then [[68,67,82],reg80 (op / 8)]
 else if op % 8=6 then [[77,86,73],reg80 (op / 8),sD8]
 else if op % 8=7 then [pickL [[82,76,67],[82,82,67],[82,65,76],[82,65,82],[68,65,65],[67,77,65],[83,84,67],[67,77,67]] (op / 8)]
 else if op % 16=1 then [[76,88,73],pair80 (op / 16),sD16]
 else if op % 16=3 then [[73,78,88],pair80 (op / 16)]
 else if op % 16=9 then [[68,65,68],pair80 (op / 16)]
 else if op % 16=11 then [[68,67,88],pair80 (op / 16)]
 else if op=0 then [[78,79,80]]
 else if op=2∨op=18 then [[83,84,65,88],pair80 (op / 16)]
 else if op=10∨op=26 then [[76,68,65,88],pair80 (op / 16)]
 else if op=34∨op=42∨op=50∨op=58 then [pickL [[83,72,76,68],[76,72,76,68],[83,84,65],[76,68,65]] (op / 8 % 4),sD16]
 else []
def high80 (op:Nat):List (List UInt8):=
 if op % 8=0 then [82 :: cond80 (op / 8)]
 else if op % 8=2 then [74 :: cond80 (op / 8),sD16]
 else if op % 8=4 then [67 :: cond80 (op / 8),sD16]
 else if op % 8=6 then [pickL [[65,68,73],[65,67,73],[83,85,73],[83,66,73],[65,78,73],[88,82,73],[79,82,73],[67,80,73]] (op / 8 % 8),sD8]
 else if op % 8=7 then [[82,83,84],[UInt8.ofNat (48+op / 8 % 8)]]
 else if op=193∨op=209∨op=225∨op=241 then [[80,79,80],pickL stackW80 (op / 16 % 4)]
 else if op=197∨op=213∨op=229∨op=245 then [[80,85,83,72],pickL stackW80 (op / 16 % 4)]
 else if op=201∨op=233∨op=249 then [pickL [[82,69,84],[45],[80,67,72,76],[83,80,72,76]] (op / 16 % 4)]
 else if op=195 then [[74,77,80],sD16]
 else if op=205 then [[67,65,76,76],sD16]
 else if op=211∨op=219 then [pickL [[79,85,84],[73,78]] (op / 8 % 2),sD8]
 else if op=227∨op=235∨op=243∨op=251 then [pickL [[88,84,72,76],[88,67,72,71],[68,73],[69,73]] (op / 8 % 4)]
 else []
def words80 (op:Nat):List (List UInt8):=
 if op / 64=0 then low80 op
 else if op / 64=1 then (if op=118 then [[72,76,84]] else [[77,79,86],reg80 (op / 8),reg80 op])
 else if op / 64=2 then [pickL [[65,68,68],[65,68,67],[83,85,66],[83,66,66],[65,78,65],[88,82,65],[79,82,65],[67,77,80]] (op / 8 % 8),reg80 op]
 else high80 op
def size80 (op:Nat):Nat:=if words80 op = [] then 0 else if (words80 op).getLastD []=sD16 then 3 else if (words80 op).getLastD []=sD8 then 2 else 1
def condI80 (op:Nat):Int:=if op / 64=3/\op % 2=0/\op % 8≠6 then ((op / 8 % 8:Nat):Int) else -1
def jumps80 (op:Nat):Bool:=decide (op=195∨op=205) || (decide (0<=condI80 op) && decide (op % 8≠0))
def numA (n:Nat):Ar:=⟨[],[],false,false,numE n⟩
def wordA (s:List UInt8):Ar:=⟨s,[],false,false,ex0⟩
def nameA (s:List UInt8):Ar:=⟨[],[],false,false,.mk sN 0 s []⟩
def byteN (b:List UInt8) (i:Nat):Nat:=(b.getD i 0).toNat
def hexL (n:Nat):UInt8:=UInt8.ofNat (if n % 16<10 then 48+n % 16 else 55+n % 16)
def labelD (n:Nat):List UInt8:=[76,hexL (n / 4096),hexL (n / 256),hexL (n / 16),hexL n]
open Go.RowKit
theorem zero_bool (w:World):(zeroValue 4).run Tryz.prog w=.ok (.bool false) w:=by kernel_rfl
abbrev litI (x:Int):Lit:=.int .i64 x
def SetAt (w:World) (b:Nat) (xs:List Int):Prop:=w.ownsMap Tryz.prog 3 (plainElem (H:=Unit) Tryz.prog 4) b xs.length (Maps.setOf (.lit (.bool true)) (xs.map litI))
theorem SetAt.made (w:World):SetAt (w.alloc (.map #[] 0)) w.heap.size []:=World.ownsMap_made w Tryz.prog 3 _
theorem SetAt.lt {w:World} {b:Nat} {xs:List Int} (h:SetAt w b xs):b<w.heap.size:=World.ownsMap.lt h
theorem SetAt.keep {w w':World} {b:Nat} {xs:List Int} (h:SetAt w b xs) (hk:w'.heap[b]? = w.heap[b]?):SetAt w' b xs:=by
 obtain ⟨es,clock,hb,F,hs,hD⟩:=h
 exact ⟨es,clock,hk.trans hb,F,hs,hD⟩
theorem list_rev {α:Type} {P:List α->Prop} (h0:P []) (h1:∀ l a,P l->P (l++[a])) (l:List α):P l:=by
 have h:∀ m:List α,P m.reverse:=by
  intro m
  induction m with
  | nil=>exact h0
  | cons a m ih=>rw [List.reverse_cons];exact h1 _ _ ih
 have:=h l.reverse
 rwa [List.reverse_reverse] at this
theorem plainElem_bool_inv {H:Type} {P:Program} {e:TypeId} (he:P.underlying e=some .bool) {v:Value} {z:DataW H × List MemPlace} (h:plainElem P e v=some z):∃ x,v=.bool x/\z=(.lit (.bool x),[]):=by
 unfold plainElem at h
 rw [he] at h
 cases v <;> simp at h
 exact ⟨_,rfl,h.symm⟩
theorem SetAt.put {w':World} {b:Nat} {xs:List Int} (x:Int) (h:w'.ownsMap Tryz.prog 3 (plainElem (H:=Unit) Tryz.prog 4) b (xs.length+1) ((Maps.setOf (.lit (.bool true)) (xs.map litI)).put (litI x) (.lit (.bool true)))):SetAt w' b (xs++[x]):=by
 unfold SetAt
 rw [List.map_append,List.map_cons,List.map_nil,Maps.setOf_snoc,List.length_append]
 exact h
theorem info_build:(Tryz.prog.info? 77).map (fun i=>(i.size,i.bytes))=some (2,32):=by kernel_rfl
theorem bcheck_used (b:Nat) (w:World) (h0:w.cell? ⟨b,0,none⟩=some (.pointer (some ⟨b,0,none⟩))) :
  Calls Tryz.prog 54 #[.pointer (some ⟨b,0,none⟩)] w fun e w'=>e=.returned (.tuple #[])/\w'=w:=by
 obtain ⟨j,hj,_⟩:=Option.map_eq_some_iff.1 info_build
 go_enter Tryz.func54, Tryz.ntmps54
 go_wp2
 rw [Lib.run_neq_ptr_same w _ Tryz.underlying74 hj]
 go_wp2
 go_end0
 exact ⟨rfl,rfl⟩
theorem bcheck_fresh (b:Nat) (w:World) (h0:w.cell? ⟨b,0,none⟩=some (.pointer none)) (hsh:w.shape? b=some (77,2)) (hfz:w.frozen? ⟨b,0,none⟩=false) :
  Calls Tryz.prog 54 #[.pointer (some ⟨b,0,none⟩)] w fun e w'=>e=.returned (.tuple #[])/\w'=w.setCell ⟨b,0,none⟩ (.pointer (some ⟨b,0,none⟩)):=by
 obtain ⟨j,hj,hjs⟩:=Option.map_eq_some_iff.1 info_build
 simp only [Prod.mk.injEq] at hjs
 go_enter Tryz.func54, Tryz.ntmps54
 go_wp2
 rw [Lib.run_to_unsafe w ⟨b,0,none⟩ Tryz.underlying74 Tryz.underlying184 hj (by rw [hjs.1];decide) hsh (Nat.zero_lt_succ 1)]
 simp only [Result.andThen]
 rw [Oper.upon_value]
 go_wp2
 rw [run_callFunc_extern Tryz.func106 (by kernel_rfl) (by kernel_rfl) (by kernel_rfl) (e:=Extern.AbiNoEscape.same) (by kernel_rfl)]
 rw [Lib.run_noEscape]
 simp only [Result.andThen]
 rw [Oper.upon_value]
 go_wp2
 rw [Lib.run_from_unsafe w ⟨b,0,none⟩ Tryz.underlying184 Tryz.underlying74 hj hsh (by kernel_rfl)]
 simp only [Result.andThen]
 rw [Oper.upon_value]
 go_wp2
 go_end0
 exact ⟨rfl,rfl⟩
theorem bcheck_any (B b:Nat) (bs:List Value) (w:World) (h:Lib.IsBuilder 77 5 B b bs w) :
  Calls Tryz.prog 54 #[.pointer (some ⟨b,0,none⟩)] w fun e w'=>e=.returned (.tuple #[])/\Lib.BuilderAt 77 5 B b (.pointer (some ⟨b,0,none⟩)) bs w'/\Below B w w':=by
 rcases h with h | h
 ·refine (bcheck_fresh b w h.cell0 h.shape h.frozen0).mono ?_
  rintro e w' ⟨rfl,rfl⟩
  exact ⟨rfl,h.used _,(Below.refl B w).setCell (p:=⟨b,0,none⟩) h.1 _⟩
 ·refine (bcheck_used b w h.cell0).mono ?_
  rintro e w' ⟨rfl,rfl⟩
  exact ⟨rfl,h,Below.refl B _⟩
theorem info_byte:(Tryz.prog.info? 5).map (fun i=>(i.zero,i.size,i.bytes))=some (some (.int .u8 0),1,1):=by kernel_rfl
theorem strCells_list (l:List UInt8):Lib.strCells ⟨l.toArray⟩=Lib.byteCells l:=rfl
theorem bwrite_str (B b:Nat) (l s:List UInt8) (w:World) (h:Lib.IsBuilder 77 5 B b (Lib.byteCells l) w) (hlen:l.length+s.length<=1000000000) (hBw:B<=w.heap.size) :
  Calls Tryz.prog 20 #[.pointer (some ⟨b,0,none⟩),.string ⟨s.toArray⟩] w fun e w'=>e=.returned (.tuple #[.int .i64 s.length,.nilIface])/\Lib.IsBuilder 77 5 B b (Lib.byteCells (l++s)) w'/\Below B w w':=by
 have hl:=Lib.byteCells_length l
 obtain ⟨i0,hi,hz0,hz1,hz2⟩:=info_parts info_byte
 have HC:=LH (bcheck_any B b (Lib.byteCells l) w h)
 have e1:(Lib.byteCells l)++Lib.strCells ⟨s.toArray⟩=Lib.byteCells (l++s):=by rw [strCells_list];simp [Lib.byteCells]
 have HE:=LH e1
 clear e1
 go_enter Tryz.func20, Tryz.ntmps20
 go_wp2_with fail
 refine HC.out.mono ?_
 rintro e w1 ⟨rfl,h1,hb1⟩
 obtain ⟨hB,v,hbk,hown,hne⟩:=h1
 rw [hl] at hown
 obtain ⟨vA,vc,rfl,hvc,hvm⟩:∃ A c,v=.slice A l.length c/\l.length<=c/\True:=by
  rcases hown.2 with ⟨hv,h0⟩ | ⟨g,cap,cur,hv,_,_,hc,_⟩
  ·exact ⟨none,0,by rw [hv,h0],by omega,trivial⟩
  ·exact ⟨_,cap,hv,hc,trivial⟩
 have c0:w1.cell? ⟨b,0,none⟩=some (.pointer (some ⟨b,0,none⟩)):=by rw [Lib.cell_of_heap hbk];rfl
 have c1:w1.cell? ⟨b,1,none⟩=some (.slice vA l.length vc):=by rw [Lib.cell_of_heap hbk];rfl
 have HBK:=LH hbk
 have HOW:=LH hown
 have HB1:=LH hb1
 have hsz:=hb1.size
 clear hl hbk hown hb1 HC
 go_wp2_with (
  at_builtin
  refine Lib.wpList_append_own_string _ rfl _ _ 75 9 rfl B 5 i0 Tryz.underlying75 Tryz.underlying9 hi hz0 hz1 hz2 _ _ _ rfl HOW.out ⟨s.toArray⟩ rfl (by simp [ByteArray.size];unfold maxLen;omega) (by simp [ByteArray.size];omega) (by omega) ?_
  intro v' w2 hown' hgrow hx
  have hlt:b<w1.heap.size:=loh HBK.out
  have hb2:w2.heap[b]? = some (.cells #[.pointer (some ⟨b,0,none⟩),.slice vA l.length vc] 77 (0,0)):=by
   rw [hgrow.block b hlt (fun e=>hne e.symm)]
   exact HBK.out
  have d0:w2.cell? ⟨b,0,none⟩=some (.pointer (some ⟨b,0,none⟩)):=by rw [Lib.cell_of_heap hb2];rfl
  have d1:w2.cell? ⟨b,1,none⟩=some (.slice vA l.length vc):=by rw [Lib.cell_of_heap hb2];rfl
  have f1:w2.frozen? ⟨b,1,none⟩=false:=Lib.frozen_of_heap hb2 1
  obtain ⟨ao,n',cap,rfl⟩:∃ ao n' cap,v'=.slice ao n' cap:=by
   rcases hown'.2 with ⟨hv,_⟩ | ⟨g,cap,cur,hv,_⟩
   ·exact ⟨_,_,_,hv⟩
   ·exact ⟨_,_,_,hv⟩
  have HF1:=LH (Lib.BuilderAt.put (T:=77) (e:=5) hB hb2 (bs':=Lib.byteCells l++Lib.strCells ⟨s.toArray⟩) (by simpa [Lib.strCells_length,Lib.byteCells_length] using hown') (by decide))
  have HF2:=LH ((HB1.out.grown hgrow (by omega) (fun k hk=>(HOW.out.lt k hk).1)).setCell (p:=⟨b,1,none⟩) hB (.slice ao n' cap))
  clear hb2 hown' hgrow hx HBK HOW HB1)
 go_ret2
 exact ⟨by simp,.inr (HE.out ▸ HF1.out),HF2.out⟩
end Go.Proofs.YtbdnbfacalfciaaGreatDoor
