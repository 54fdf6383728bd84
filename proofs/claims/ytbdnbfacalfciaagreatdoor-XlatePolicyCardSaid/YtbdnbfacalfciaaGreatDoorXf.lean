/- Xf. -/
import Derived.Test.YtbdnbfacalfciaaGreatDoorKb
import Derived.Test.YtbdnbfacalfciaaGreatDoorKa
import Derived.WalkKit
import Derived.IntWalk
import Derived.Test.YtbdnbfacalfciaaGreatDoorKg
import Derived.Laws.EntriesVeiled
namespace Go.Proofs.YtbdnbfacalfciaaGreatDoor
set_option maxRecDepth 100000
set_option maxHeartbeats 8000000
open Go.RowKit
theorem ofInt16 (a:Nat) (ha:a<=65535):(BitVec.ofInt 16 (a:Int)).toNat=a:=by
 rw [BitVec.ofInt_natCast,BitVec.toNat_ofNat];exact Nat.mod_eq_of_lt (by omega)
theorem or16 (a b:Nat) (ha:a<=65535) (hb:b<=65535):bits .or .u16 (a:Int) (b:Int)=((a ||| b:Nat):Int):=by
 show IntKind.u16.wrap ((BitVec.ofInt 16 (a:Int) ||| BitVec.ofInt 16 (b:Int)).toNat:Int)=_
 rw [BitVec.toNat_or,ofInt16 a ha,ofInt16 b hb]
 have:a ||| b<2 ^ 16:=Nat.or_lt_two_pow (by omega) (by omega)
 exact IntWalk.u16_in _ (by omega)
theorem xor16 (a b:Nat) (ha:a<=65535) (hb:b<=65535):bits .xor .u16 (a:Int) (b:Int)=((a ^^^ b:Nat):Int):=by
 show IntKind.u16.wrap ((BitVec.ofInt 16 (a:Int) ^^^ BitVec.ofInt 16 (b:Int)).toNat:Int)=_
 rw [BitVec.toNat_xor,ofInt16 a ha,ofInt16 b hb]
 have:a ^^^ b<2 ^ 16:=Nat.xor_lt_two_pow (by omega) (by omega)
 exact IntWalk.u16_in _ (by omega)
theorem and16 (a b:Nat) (ha:a<=65535) (hb:b<=65535):bits .and .u16 (a:Int) (b:Int)=((a &&& b:Nat):Int):=by
 show IntKind.u16.wrap ((BitVec.ofInt 16 (a:Int) &&& BitVec.ofInt 16 (b:Int)).toNat:Int)=_
 rw [BitVec.toNat_and,ofInt16 a ha,ofInt16 b hb]
 have:a &&& b<2 ^ 16:=Nat.and_lt_two_pow _ (by omega)
 exact IntWalk.u16_in _ (by omega)
theorem two_ok (o:List UInt8) (a b:Nat) (ha:a<=65535) (hb:b<=65535):(twoE o a b).1<=65535/\(twoE o a b).2<=11:=by
 have h1:a ||| b<2 ^ 16:=Nat.or_lt_two_pow (by omega) (by omega)
 have h2:a ^^^ b<2 ^ 16:=Nat.xor_lt_two_pow (by omega) (by omega)
 have h3:a &&& b<2 ^ 16:=Nat.and_lt_two_pow _ (by omega)
 have h4:a / 2 ^ b<=a:=Nat.div_le_self _ _
 have h5:a / b<=a:=Nat.div_le_self _ _
 have h6:a % b<=a:=Nat.mod_le _ _
 unfold twoE
 repeat' split
 all_goals (refine ⟨?_,?_⟩ <;> (try dsimp only) <;> omega)
theorem wrap16 (z:Int):IntKind.u16.wrap z=z % 65536:=by
 simp [IntKind.wrap,IntKind.signed,IntKind.bits]
theorem shl16 (a b:Nat):IntKind.u16.wrap ((a:Int) * 2 ^ min b 16)=(((a * 2 ^ b) % 65536:Nat):Int):=by
 rw [wrap16]
 by_cases h:b<=16
 ·rw [Nat.min_eq_left h];simp
 ·rw [Nat.min_eq_right (by omega)]
  have e:a * 2 ^ b=65536 * (a * 2 ^ (b - 16)):=by
   rw [show (65536:Nat)=2 ^ 16 from rfl,Nat.mul_left_comm,← Nat.pow_add,show 16+(b - 16)=b by omega]
  rw [e,Nat.mul_mod_right]
  simp
theorem shr16 (a b:Nat) (ha:a<=65535):(a:Int) / 2 ^ min b 16=((a / 2 ^ b:Nat):Int):=by
 by_cases h:b<=16
 ·rw [Nat.min_eq_left h];simp
 ·rw [Nat.min_eq_right (by omega)]
  have h1:a / 2 ^ b=0:=Nat.div_eq_of_lt (Nat.lt_of_lt_of_le (show a<2 ^ 16 by omega) (Nat.pow_le_pow_right (by omega) (by omega)))
  rw [h1]
  have:(2:Int) ^ 16=65536:=by decide
  rw [this];omega
theorem two_any (o:List UInt8) (a b:Nat) (ha:a<=65535) (hb:b<=65535) (w:World) :
  Calls Tryz.prog 271 #[.string ⟨o.toArray⟩,.int .u16 a,.int .u16 b] w fun e w'=>e=.returned (.tuple #[.int .u16 (twoE o a b).1,.int .i64 (twoE o a b).2])/\w=w':=by
 by_cases c0:o=sOR
 ·subst c0
  have HT:Hid (twoE sOR a b=(a ||| b,0)):=LH rfl
  have hx:=or16 a b ha hb
  generalize twoE sOR a b=r at *
  go_enter Tryz.func271, Tryz.ntmps271
  go_wp2_with fail
  go_ret2
  rw [HT.out]
  exact ⟨ret_2int (rfl) rfl,rfl⟩
 by_cases c1:o=sXOR
 ·subst c1
  have HT:Hid (twoE sXOR a b=(a ^^^ b,0)):=LH rfl
  have hx:=xor16 a b ha hb
  generalize twoE sXOR a b=r at *
  go_enter Tryz.func271, Tryz.ntmps271
  go_wp2_with fail
  go_ret2
  rw [HT.out]
  exact ⟨ret_2int (rfl) rfl,rfl⟩
 by_cases c2:o=sAND
 ·subst c2
  have HT:Hid (twoE sAND a b=(a &&& b,0)):=LH rfl
  have hx:=and16 a b ha hb
  generalize twoE sAND a b=r at *
  go_enter Tryz.func271, Tryz.ntmps271
  go_wp2_with fail
  go_ret2
  rw [HT.out]
  exact ⟨ret_2int (rfl) rfl,rfl⟩
 by_cases c3:o = [43]
 ·subst c3
  have HT:Hid (twoE [43] a b=((a+b) % 65536,0)):=LH rfl
  generalize twoE [43] a b=r at *
  go_enter Tryz.func271, Tryz.ntmps271
  go_wp2_with fail
  go_ret2
  rw [HT.out]
  exact ⟨ret_2int (by rw [wrap16];omega) rfl,rfl⟩
 by_cases c4:o = [45]
 ·subst c4
  have HT:Hid (twoE [45] a b=((a+65536 - b) % 65536,0)):=LH rfl
  generalize twoE [45] a b=r at *
  go_enter Tryz.func271, Tryz.ntmps271
  go_wp2_with fail
  go_ret2
  rw [HT.out]
  exact ⟨ret_2int (by rw [wrap16];omega) rfl,rfl⟩
 by_cases c5:o = [42]
 ·subst c5
  have HT:Hid (twoE [42] a b=((a * b) % 65536,0)):=LH rfl
  generalize twoE [42] a b=r at *
  go_enter Tryz.func271, Tryz.ntmps271
  go_wp2_with fail
  go_ret2
  rw [HT.out]
  exact ⟨ret_2int (by rw [wrap16,← Int.natCast_mul];omega) rfl,rfl⟩
 by_cases c6:o=sSHL
 ·subst c6
  have HT:Hid (twoE sSHL a b=((a * 2 ^ b) % 65536,0)):=LH rfl
  generalize twoE sSHL a b=r at *
  go_enter Tryz.func271, Tryz.ntmps271
  go_wp2_with fail
  go_ret2
  rw [HT.out]
  exact ⟨ret_2int (shl16 a b) rfl,rfl⟩
 by_cases c7:o=sSHR
 ·subst c7
  have HT:Hid (twoE sSHR a b=(a / 2 ^ b,0)):=LH rfl
  generalize twoE sSHR a b=r at *
  go_enter Tryz.func271, Tryz.ntmps271
  go_wp2_with fail
  go_ret2
  rw [HT.out]
  exact ⟨ret_2int (shr16 a b ha) rfl,rfl⟩
 have d0:(o == [79,82])=false:=by simpa using c0
 have d1:(o == [88,79,82])=false:=by simpa using c1
 have d2:(o == [65,78,68])=false:=by simpa using c2
 have d3:(o == [43])=false:=by simpa using c3
 have d4:(o == [45])=false:=by simpa using c4
 have d5:(o == [42])=false:=by simpa using c5
 have d6:(o == [83,72,76])=false:=by simpa using c6
 have d7:(o == [83,72,82])=false:=by simpa using c7
 have HT0:Hid (twoE o a b=if b=0 then (0,5) else if o = [47] then (a / b,0) else (a % b,0)):=LH (by unfold twoE;rw [if_neg c0,if_neg c1,if_neg c2,if_neg c3,if_neg c4,if_neg c5,if_neg c6,if_neg c7])
 generalize twoE o a b=r at *
 clear c0 c1 c2 c3 c4 c5 c6 c7
 by_cases h0:b=0
 ·have HT:=LH (HT0.out.trans (if_pos h0))
  subst h0
  go_enter Tryz.func271, Tryz.ntmps271
  go_wp2_with fail
  go_ret2
  rw [HT.out]
  exact ⟨rfl,rfl⟩
 have HT1:=LH (HT0.out.trans (if_neg h0))
 have hb0:((b:Int) == 0)=false:=by rw [beq_eq_false_iff_ne];omega
 have hb1:(1:Int)<=(b:Int):=by omega
 have hb2:(b:Int)<=65535:=by omega
 have ha2:(a:Int)<=65535:=by omega
 clear h0 HT0
 by_cases c9:o = [47]
 ·have HT:=LH (HT1.out.trans (if_pos c9))
  subst c9
  go_enter Tryz.func271, Tryz.ntmps271
  go_wp2_with fail
  go_ret2
  rw [HT.out]
  exact ⟨ret_2int (by rw [wrap16,← Int.natCast_ediv];have hq:=Nat.div_le_self a b;generalize a / b=q at *;omega) rfl,rfl⟩
 ·have HT:=LH (HT1.out.trans (if_neg c9))
  have d9:(o == [47])=false:=by simpa using c9
  clear c9
  go_enter Tryz.func271, Tryz.ntmps271
  go_wp2_with fail
  go_ret2
  rw [HT.out]
  exact ⟨ret_2int (by first | rfl | (rw [Int.natCast_emod])) rfl,rfl⟩
def OfSt (w:World) (bh bv bo:Nat) (here:Nat) (f:Value):Prop:=
 w.cell? ⟨bh,0,none⟩=some (.int .u16 here)/\w.cell? ⟨bv,0,none⟩=some f /\
 w.cell? ⟨bo,0,none⟩=some (.func (.func 270) #[] #[.pointer (some ⟨bh,0,none⟩),.pointer (some ⟨bv,0,none⟩),.pointer (some ⟨bo,0,none⟩)])
theorem OfSt.keep {w w':World} {bh bv bo here:Nat} {f:Value} (h:OfSt w bh bv bo here f) (hk:∀ p:Addr,p.block<w.heap.size->w'.cell? p=w.cell? p):OfSt w' bh bv bo here f:=
 ⟨(hk _ (World.block_lt_of_cell? _ _ h.1)).trans h.1,(hk _ (World.block_lt_of_cell? _ _ h.2.1)).trans h.2.1,(hk _ (World.block_lt_of_cell? _ _ h.2.2)).trans h.2.2⟩
def ValP (w0:World) (K:FuncId) (bd caps:Array Value) (val:List UInt8->Nat × Nat):Prop:=
 (∀ name,(val name).1<=65535)/\(∀ args W,(callFunc K args).run Tryz.prog W=.ok (.enter K args) W)/\∀ (name:List UInt8) (W:World),name.length<=1000->Below w0.heap.size w0 W->Calls Tryz.prog K (bd ++ #[.string ⟨name.toArray⟩]++caps) W fun r w'=>r=.returned (.tuple #[.int .u16 (val name).1,.int .i64 (val name).2])/\Below W.heap.size W w'
def OfH (w0:World) (bh bv bo here:Nat) (f:Value) (val:List UInt8->Nat × Nat) (x:Ex):Prop:=∀ (d:Nat) (v:Value) (w:World),rightE x d=true->fitE x=true->Below w0.heap.size w0 w->OfSt w bh bv bo here f->SubAt w (· < w.heap.size) v x.sub ->
 Calls Tryz.prog 270 #[.agg #[.string ⟨x.op.toArray⟩,.int .u16 x.n,.string ⟨x.name.toArray⟩,v],.pointer (some ⟨bh,0,none⟩),.pointer (some ⟨bv,0,none⟩),.pointer (some ⟨bo,0,none⟩)] w fun e w'=>e=.returned (.tuple #[.int .u16 (evalE here val x).1,.int .i64 (evalE here val x).2])/\Below w.heap.size w w'
theorem eval_le (here:Nat) (hh:here<=65535) (val:List UInt8->Nat × Nat) (hv:∀ m,(val m).1<=65535) (x:Ex):fitE x=true->(evalE here val x).1<=65535:=by
 induction x using Ex.ind with
 | h o n m s ih=>
  intro hf
  simp [fitE] at hf
  unfold evalE
  split
  ·exact hf.1.1.1
  ·split
   ·exact hh
   ·split
    ·exact hv m
    ·match s,ih,hf.2 with
     | [],_,_=>simp
     | [a],ih,hf => 
      simp [fitL] at hf
      have:=ih a (by simp) hf
      dsimp only
      split
      ·simp
      ·split <;> simp <;> omega
     | [a,b],ih,hf=>
      simp [fitL] at hf
      have h1:=ih a (by simp) hf.1
      have h2:=ih b (by simp) hf.2
      dsimp only
      split
      ·simp
      ·split
       ·simp
       ·exact (two_ok o _ _ h1 h2).1
     | a :: b :: c :: r,_,_=>simp
section
variable (bh bv bo here:Nat)
theorem of_num (n:Nat) (A:Option Addr) (c:Nat) (w:World) :
  Calls Tryz.prog 270 #[.agg #[.string ⟨#[35]⟩,.int .u16 n,.string ⟨#[]⟩,.slice A 0 c],.pointer (some ⟨bh,0,none⟩),.pointer (some ⟨bv,0,none⟩),.pointer (some ⟨bo,0,none⟩)] w fun e w'=>e=.returned (.tuple #[.int .u16 n,.int .i64 0])/\Below w.heap.size w w':=by
 go_enter Tryz.func270, Tryz.ntmps270
 go_wp2_with fail
 go_ret2
 exact ⟨rfl,(Below.refl _ _).alloc (Nat.le_refl _) _⟩
theorem of_here (A:Option Addr) (c:Nat) (f:Value) (w:World) (ho:OfSt w bh bv bo here f) :
  Calls Tryz.prog 270 #[.agg #[.string ⟨#[36]⟩,.int .u16 0,.string ⟨#[]⟩,.slice A 0 c],.pointer (some ⟨bh,0,none⟩),.pointer (some ⟨bv,0,none⟩),.pointer (some ⟨bo,0,none⟩)] w fun e w'=>e=.returned (.tuple #[.int .u16 here,.int .i64 0])/\Below w.heap.size w w':=by
 obtain ⟨c1,c2,c3⟩:=ho
 have hl:=World.block_lt_of_cell? _ _ c1
 clear c2 c3
 go_enter Tryz.func270, Tryz.ntmps270
 go_wp2_with fail
 go_ret2
 exact ⟨rfl,(Below.refl _ _).alloc (Nat.le_refl _) _⟩
theorem of_name (w0:World) (K:FuncId) (bd caps:Array Value) (val:List UInt8->Nat × Nat) (hv:ValP w0 K bd caps val) (m:List UInt8) (hm:m.length<=1000) (A:Option Addr) (c:Nat) (w:World) (hw:Below w0.heap.size w0 w) (ho:OfSt w bh bv bo here (.func (.func K) bd caps)) :
  Calls Tryz.prog 270 #[.agg #[.string ⟨#[110]⟩,.int .u16 0,.string ⟨m.toArray⟩,.slice A 0 c],.pointer (some ⟨bh,0,none⟩),.pointer (some ⟨bv,0,none⟩),.pointer (some ⟨bo,0,none⟩)] w fun e w'=>e=.returned (.tuple #[.int .u16 (val m).1,.int .i64 (val m).2])/\Below w.heap.size w w':=by
 obtain ⟨c1,c2,c3⟩:=ho
 have hl:=World.block_lt_of_cell? _ _ c2
 have HV:=LH (fun W hW=>hv.2.2 m W hm hW)
 have heg:=hv.2.1
 have HW:=LH hw
 have hsz:=hw.size
 clear c1 c3 hv hw
 generalize val m=vm at *
 go_enter Tryz.func270, Tryz.ntmps270
 go_wp2_with fail
 refine (HV.out _ (HW.out.alloc hsz _)).mono ?_
 rintro e w1 ⟨rfl,hb1⟩
 go_wp2_with fail
 go_ret2
 exact ⟨rfl,((Below.refl _ _).alloc (Nat.le_refl _) _).trans (hb1.mono (by simp))⟩
end
theorem xor_max (x:Nat) (hx:x<=65535):65535 ^^^ x=65535 - x:=by
 have h:((BitVec.allOnes 16) ^^^ (BitVec.ofNat 16 x)).toNat=65535 ^^^ x:=by
  rw [BitVec.toNat_xor,BitVec.toNat_ofNat,Nat.mod_eq_of_lt (by omega)];rfl
 rw [← h,BitVec.allOnes_xor,BitVec.toNat_not,BitVec.toNat_ofNat,Nat.mod_eq_of_lt (by omega)]
theorem not16 (x:Nat) (hx:x<=65535):bits BinOp.xor IntKind.u16 IntKind.u16.max (x:Int)=((65535 - x:Nat):Int):=by
 have:=xor16 65535 x (by omega) hx
 rw [xor_max x hx] at this
 exact this
def oneV (o:List UInt8) (x:Nat × Nat):Nat × Nat:=if x.2≠0 then (0,x.2) else if o=sNOT then (65535 - x.1,0) else ((65536 - x.1) % 65536,0)
theorem of_one (w0:World) (bh bv bo here:Nat) (f:Value) (val:List UInt8->Nat × Nat) (o:List UInt8) (hoo:o=sNOT∨o=sNEG) (a:Ex) (d:Nat) (hr:rightE a d=true) (hf:fitE a=true) (hle:(evalE here val a).1<=65535) (ih:OfH w0 bh bv bo here f val a)
  (v:Value) (w:World) (hw:Below w0.heap.size w0 w) (ho:OfSt w bh bv bo here f) (hs:SubAt w (· < w.heap.size) v [a]) :
  Calls Tryz.prog 270 #[.agg #[.string ⟨o.toArray⟩,.int .u16 0,.string ⟨#[]⟩,v],.pointer (some ⟨bh,0,none⟩),.pointer (some ⟨bv,0,none⟩),.pointer (some ⟨bo,0,none⟩)] w fun e w'=>e=.returned (.tuple #[.int .u16 (oneV o (evalE here val a)).1,.int .i64 (oneV o (evalE here val a)).2])/\Below w.heap.size w w':=by
 obtain ⟨A,c,rfl,hc,hm2⟩:=hs.form
 obtain ⟨g,q,va,hA,hgl,a0,a1,a2,a3,hsa,hna,_,_⟩:=hs.get 0 (by simp)
 subst hA
 obtain ⟨aA,ac,rfl,_,_⟩:=hsa.form
 simp only [List.getElem_cons_zero,Nat.zero_mul,Nat.add_zero,Nat.zero_add,List.length_cons,List.length_nil] at a0 a1 a2 a3 hsa hna hc hm2 ⊢
 have HI:Hid (∀ o1,Calls Tryz.prog 270 #[.agg #[.string ⟨a.op.toArray⟩,.int .u16 a.n,.string ⟨a.name.toArray⟩,.slice aA a.sub.length ac],.pointer (some ⟨bh,0,none⟩),.pointer (some ⟨bv,0,none⟩),.pointer (some ⟨bo,0,none⟩)] (w.alloc o1).drew fun e w'=>e=.returned (.tuple #[.int .u16 (evalE here val a).1,.int .i64 (evalE here val a).2])/\Below (w.alloc o1).drew.heap.size (w.alloc o1).drew w'):=
  LH (fun o1=>ih d _ _ hr hf ((hw.alloc hw.size _).drew) (ho.keep (fun p hp=>World.cell?_alloc_lt _ _ _ hp)) (hsa.keep (fun p hp=>World.cell?_alloc_lt _ _ _ hp) (fun x (hx:x<w.heap.size)=>by simp;omega)))
 obtain ⟨c1,c2,c3⟩:=ho
 have hl:=World.block_lt_of_cell? _ _ c3
 have HV:Hid (oneV o (evalE here val a)=if (evalE here val a).2≠0 then (0,(evalE here val a).2) else if o=sNOT then (65535 - (evalE here val a).1,0) else ((65536 - (evalE here val a).1) % 65536,0)):=LH rfl
 generalize oneV o (evalE here val a)=res at *
 generalize evalE here val a=x at *
 obtain ⟨x,k⟩:=x
 dsimp only at *
 clear c1 c2 hs hsa ih hr hf hw
 have d1:(o == [35])=false:=by rcases hoo with rfl | rfl <;> rfl
 have d2:(o == [36])=false:=by rcases hoo with rfl | rfl <;> rfl
 have d3:(o == [110])=false:=by rcases hoo with rfl | rfl <;> rfl
 go_enter Tryz.func270, Tryz.ntmps270
 go_wp2_with fail
 go_region_with (first | (go_at_call 270;(with_reducible refine (HI.out _).mono ?_);rintro e1 w2 ⟨rfl,hb2⟩))
 all_goals (
  obtain ⟨hcc,hff⟩:=bcell hb2
  have hbw:Below w.heap.size w w2:=((Below.refl w.heap.size w).alloc (Nat.le_refl _) _).drew.trans (hb2.mono (by simp))
  have hz:w.heap.size<w2.heap.size:=by have:=hb2.size;simp at this;omega
  by_cases hk:k=0
  ·subst hk
   rw [if_neg (by simp)] at HV
   rcases hoo with rfl | rfl
   ·rw [if_pos rfl] at HV
    go_simp
    go_wp2_with fail
    go_ret2
    rw [HV.out]
    exact ⟨ret_2int (not16 x hle) rfl,hbw⟩
   ·rw [if_neg (by decide)] at HV
    go_simp
    go_wp2_with fail
    go_ret2
    rw [HV.out]
    exact ⟨ret_2int (by rw [wrap16];show _=(((65536 - x) % 65536:Nat):Int);omega) rfl,hbw⟩
  ·rw [if_pos hk] at HV
   have hk1:((k:Int) == 0)=false:=by rw [beq_eq_false_iff_ne];omega
   go_simp
   go_wp2_with fail
   go_ret2
   rw [HV.out]
   exact ⟨rfl,hbw⟩)
def twoV (o:List UInt8) (x y:Nat × Nat):Nat × Nat:=if x.2≠0 then (0,x.2) else if y.2≠0 then (0,y.2) else twoE o x.1 y.1
theorem of_two (w0:World) (bh bv bo here:Nat) (f:Value) (val:List UInt8->Nat × Nat) (o:List UInt8) (r:Nat) (hoo:binO o r) (a b:Ex) (d:Nat) (hr:rightE a d=true) (hr':rightE b d=true) (hf:fitE a=true) (hf':fitE b=true) (hle:(evalE here val a).1<=65535) (hle':(evalE here val b).1<=65535) (ih:OfH w0 bh bv bo here f val a) (ih':OfH w0 bh bv bo here f val b)
  (v:Value) (w:World) (hw:Below w0.heap.size w0 w) (ho:OfSt w bh bv bo here f) (hs:SubAt w (· < w.heap.size) v [a,b]) :
  Calls Tryz.prog 270 #[.agg #[.string ⟨o.toArray⟩,.int .u16 0,.string ⟨#[]⟩,v],.pointer (some ⟨bh,0,none⟩),.pointer (some ⟨bv,0,none⟩),.pointer (some ⟨bo,0,none⟩)] w fun e w'=>e=.returned (.tuple #[.int .u16 (twoV o (evalE here val a) (evalE here val b)).1,.int .i64 (twoV o (evalE here val a) (evalE here val b)).2])/\Below w.heap.size w w':=by
 obtain ⟨A,c,rfl,hc,hm2⟩:=hs.form
 obtain ⟨g,q,va,hA,hgl,a0,a1,a2,a3,hsa,hna,_,_⟩:=hs.get 0 (by simp)
 obtain ⟨g',q',vb,hA',hgl',b0,b1,b2,b3,hsb,hnb,_,_⟩:=hs.get 1 (by simp)
 subst hA
 injection hA' with hA'
 injection hA' with hA' hA'' _
 subst hA' hA''
 obtain ⟨aA,ac,rfl,_,_⟩:=hsa.form
 obtain ⟨bA,bc,rfl,_,_⟩:=hsb.form
 simp only [List.getElem_cons_zero,List.getElem_cons_succ,Nat.zero_mul,Nat.add_zero,Nat.one_mul,Nat.zero_add,List.length_cons,List.length_nil] at a0 a1 a2 a3 b0 b1 b2 b3 hsa hsb hna hnb hc hm2 ⊢
 have HI:Hid (∀ o1,Calls Tryz.prog 270 #[.agg #[.string ⟨a.op.toArray⟩,.int .u16 a.n,.string ⟨a.name.toArray⟩,.slice aA a.sub.length ac],.pointer (some ⟨bh,0,none⟩),.pointer (some ⟨bv,0,none⟩),.pointer (some ⟨bo,0,none⟩)] (w.alloc o1).drew fun e w'=>e=.returned (.tuple #[.int .u16 (evalE here val a).1,.int .i64 (evalE here val a).2])/\Below (w.alloc o1).drew.heap.size (w.alloc o1).drew w'):=
  LH (fun o1=>ih d _ _ hr hf ((hw.alloc hw.size _).drew) (ho.keep (fun p hp=>World.cell?_alloc_lt _ _ _ hp)) (hsa.keep (fun p hp=>World.cell?_alloc_lt _ _ _ hp) (fun x (hx:x<w.heap.size)=>by simp;omega)))
 have HI':Hid (∀ W,Below w.heap.size w W->Calls Tryz.prog 270 #[.agg #[.string ⟨b.op.toArray⟩,.int .u16 b.n,.string ⟨b.name.toArray⟩,.slice bA b.sub.length bc],.pointer (some ⟨bh,0,none⟩),.pointer (some ⟨bv,0,none⟩),.pointer (some ⟨bo,0,none⟩)] W.drew fun e w'=>e=.returned (.tuple #[.int .u16 (evalE here val b).1,.int .i64 (evalE here val b).2])/\Below W.drew.heap.size W.drew w'):=
  LH (fun W hW=>ih' d _ _ hr' hf' ((hw.trans (hW.mono hw.size)).drew) (ho.keep (fun p hp=>hW.cell hp)) (hsb.keep (fun p hp=>hW.cell hp) (fun x (hx:x<w.heap.size)=>Nat.lt_of_lt_of_le hx hW.size)))
 obtain ⟨c1,c2,c3⟩:=ho
 have hl:=World.block_lt_of_cell? _ _ c3
 have HV:Hid (twoV o (evalE here val a) (evalE here val b)=if (evalE here val a).2≠0 then (0,(evalE here val a).2) else if (evalE here val b).2≠0 then (0,(evalE here val b).2) else twoE o (evalE here val a).1 (evalE here val b).1):=LH rfl
 generalize twoV o (evalE here val a) (evalE here val b)=res at *
 generalize evalE here val a=x at *
 generalize evalE here val b=y at *
 obtain ⟨x,k⟩:=x
 obtain ⟨y,j⟩:=y
 dsimp only at *
 have HT:=LH (fun W=>two_any o x y hle hle' W)
 obtain ⟨_,n1,n2,n3,n4,n5⟩:=hoo.binds
 have d1:(o == [35])=false:=by simpa using n1
 have d2:(o == [36])=false:=by simpa using n4
 have d3:(o == [110])=false:=by simpa using n2
 have d4:(o == [78,79,84])=false:=by simpa using n5
 have d5:(o == [78,69,71])=false:=by simpa using n3
 clear c1 c2 hs hsa hsb ih hr hf hw ih' hr' hf' n1 n2 n3 n4 n5 hoo
 generalize twoE o x y=t at *
 go_enter Tryz.func270, Tryz.ntmps270
 go_wp2_with fail
 go_region_with (first | (go_at_call 270;(with_reducible refine (HI.out _).mono ?_);rintro e1 w2 ⟨rfl,hb2⟩))
 all_goals (
  have hbw:Below w.heap.size w w2:=((Below.refl w.heap.size w).alloc (Nat.le_refl _) _).drew.trans (hb2.mono (by simp))
  have hz:w.heap.size<w2.heap.size:=by have:=hb2.size;simp at this;omega
  have hhb:w2.heap[w.heap.size]? = some (.cells #[.string ⟨o.toArray⟩,.int .u16 0,.string ⟨#[]⟩,.slice (some ⟨g,q,none⟩) 2 c] 70 (0,0)):=(hb2.block w.heap.size (by simp)).trans (heap_alloc_new _ _)
  have e0:w2.cell? ⟨w.heap.size,0,none⟩=some (.string ⟨o.toArray⟩):=coh hhb
  have e3:w2.cell? ⟨w.heap.size,3,none⟩=some (.slice (some ⟨g,q,none⟩) 2 c):=coh hhb
  have f0:=(hbw.cell (p:=⟨g,q+4,none⟩) hgl).trans b0
  have f1:=(hbw.cell (p:=⟨g,q+4+1,none⟩) hgl).trans b1
  have f2:=(hbw.cell (p:=⟨g,q+4+2,none⟩) hgl).trans b2
  have f3:=(hbw.cell (p:=⟨g,q+4+3,none⟩) hgl).trans b3
  have g3:=(hbw.cell (p:=⟨bo,0,none⟩) hl).trans c3
  have HBW:=LH hbw
  have HI2:=LH (HI'.out w2 hbw)
  clear hb2 hhb a0 a1 a2 a3 b0 b1 b2 b3 c3 HI HI' hbw
  by_cases hk:k=0
  ·subst hk
   rw [if_neg (by simp)] at HV
   go_simp
   go_wp2_with fail
   go_region_with (first | (go_at_call 270;(with_reducible refine HI2.out.mono ?_);rintro e1 w3 ⟨rfl,hb3⟩))
   all_goals (
    have hb4:Below w.heap.size w w3:=HBW.out.drew.trans (hb3.mono HBW.out.size)
    have i0:=(hb3.cell (p:=⟨w.heap.size,0,none⟩) hz).trans e0
    have hz3:w.heap.size<w3.heap.size:=Nat.lt_of_lt_of_le hz hb3.size
    clear hb3 e0 e3 f0 f1 f2 f3 g3 HI2
    by_cases hj:j=0
    ·subst hj
     rw [if_neg (by simp)] at HV
     go_simp
     go_wp2_with fail
     refine (HT.out _).mono ?_
     rintro e4 w4 ⟨rfl,rfl⟩
     go_wp2_with fail
     go_ret2
     rw [HV.out]
     exact ⟨rfl,hb4⟩
    ·rw [if_pos hj] at HV
     have hj1:((j:Int) == 0)=false:=by rw [beq_eq_false_iff_ne];omega
     go_simp
     go_wp2_with fail
     go_ret2
     rw [HV.out]
     exact ⟨rfl,hb4⟩)
  ·rw [if_pos hk] at HV
   have hk1:((k:Int) == 0)=false:=by rw [beq_eq_false_iff_ne];omega
   go_simp
   go_wp2_with fail
   go_ret2
   rw [HV.out]
   exact ⟨rfl,HBW.out⟩)
theorem eval_name (here:Nat) (val:List UInt8->Nat × Nat) (m:List UInt8):evalE here val (.mk sN 0 m [])=val m:=by simp [evalE]
theorem eval_here (here:Nat) (val:List UInt8->Nat × Nat):evalE here val (.mk sHere 0 [] [])=(here,0):=by simp [evalE]
theorem eval_one (here:Nat) (val:List UInt8->Nat × Nat) (o:List UInt8) (ho:o=sNOT∨o=sNEG) (a:Ex):evalE here val (.mk o 0 [] [a])=oneV o (evalE here val a):=by
 rcases ho with rfl | rfl <;> simp [evalE,oneV]
theorem eval_twoV {o:List UInt8} {r:Nat} (ho:binO o r) (here:Nat) (val:List UInt8->Nat × Nat) (a b:Ex):evalE here val (.mk o 0 [] [a,b])=twoV o (evalE here val a) (evalE here val b):=by
 obtain ⟨_,h1,h2,_,h3,_⟩:=ho.binds
 rw [evalE,if_neg h1,if_neg h3,if_neg h2]
 rfl
theorem of_all (w0:World) (bh bv bo here:Nat) (hh:here<=65535) (K:FuncId) (bd caps:Array Value) (val:List UInt8->Nat × Nat) (hv:ValP w0 K bd caps val) (x:Ex):OfH w0 bh bv bo here (.func (.func K) bd caps) val x:=by
 induction x using Ex.ind with
 | h o n m s ih=>
  intro d v w hr hf hw ho hs
  have hform:=rightE.form hr
  obtain ⟨A,c,rfl,hc,_⟩:=hs.form
  cases hform with
  | num n d=>
   have e:=eval_num here val n
   unfold numE at e
   rw [e]
   exact of_num bh bv bo n A c w
  | name m d=>
   rw [eval_name]
   simp [fitE] at hf
   exact of_name bh bv bo here w0 K bd caps val hv m (by omega) A c w hw ho
  | here d=>
   rw [eval_here]
   exact of_here bh bv bo here A c _ w ho
  | neg a d hA=>
   rw [eval_one here val sNEG (.inr rfl)]
   simp [fitE,fitL] at hf
   exact of_one w0 bh bv bo here _ val sNEG (.inr rfl) a d hA hf (eval_le here hh val hv.1 a hf) (ih a (by simp)) _ w hw ho hs
  | not a d hA=>
   rw [eval_one here val sNOT (.inl rfl)]
   simp [fitE,fitL] at hf
   exact of_one w0 bh bv bo here _ val sNOT (.inl rfl) a d hA hf (eval_le here hh val hv.1 a hf) (ih a (by simp)) _ w hw ho hs
  | two o r a b d hoo h1 h2=>
   rw [eval_twoV hoo]
   simp [fitE,fitL] at hf
   exact of_two w0 bh bv bo here _ val o r hoo a b d h1 h2 hf.2.1 hf.2.2 (eval_le here hh val hv.1 a hf.2.1) (eval_le here hh val hv.1 b hf.2.2) (ih a (by simp)) (ih b (by simp)) _ w hw ho hs
theorem alloc3 {w w2:World} {o1 o2 o3:Obj} (hb:Below (((w.alloc o1).alloc o2).alloc o3).heap.size (((w.alloc o1).alloc o2).alloc o3) w2) :
  w2.heap[w.heap.size]? = some o1/\w2.heap[w.heap.size+1]? = some o2/\w2.heap[w.heap.size+2]? = some o3:=by
 have h1:(w.alloc o1).heap.size=w.heap.size+1:=World.size_alloc _ _
 have h2:((w.alloc o1).alloc o2).heap.size=w.heap.size+2:=by rw [World.size_alloc,h1]
 have h3:(((w.alloc o1).alloc o2).alloc o3).heap.size=w.heap.size+3:=by rw [World.size_alloc,h2]
 refine ⟨?_,?_,?_⟩
 ·rw [hb.block w.heap.size (by omega),hao _ _ _ (by omega),hao _ _ _ (by omega)]
  exact heap_alloc_new w o1
 ·rw [hb.block (w.heap.size+1) (by omega),hao _ _ _ (by omega),← h1]
  exact heap_alloc_new _ o2
 ·rw [hb.block (w.heap.size+2) (by omega),← h2]
  exact heap_alloc_new _ o3
def evalK (here:Nat) (val:List UInt8->Nat × Nat) (e:Ex):Nat × Nat:=if rightE e 24 then evalE here val e else (0,2)
theorem eq_func (K : FuncId) (bd caps : Array Value) (W : World) : (binOp .eql 247 (.func (.func K) bd caps) .nilFunc).run Tryz.prog W = .ok (.bool false) W := by kernel_rfl
theorem Eval_val (e:Ex) (v:Value) (here:Nat) (hh:here<=65535) (K:FuncId) (bd caps:Array Value) (val:List UInt8->Nat × Nat) (w:World) (hv:ValP w K bd caps val) (hf:fitE e=true) (hs:SubAt w (· < w.heap.size) v e.sub) :
  Calls Tryz.prog 253 #[.agg #[.string ⟨e.op.toArray⟩,.int .u16 e.n,.string ⟨e.name.toArray⟩,v],.int .u16 here,.func (.func K) bd caps] w fun r w'=>r=.returned (.tuple #[.int .u16 (evalK here val e).1,.int .i64 (evalK here val e).2])/\Below w.heap.size w w':=by
 have HR:Hid (∀ W,Below w.heap.size w W->Calls Tryz.prog 145 #[.agg #[.string ⟨e.op.toArray⟩,.int .u16 e.n,.string ⟨e.name.toArray⟩,v]] W fun r w'=>r=.returned (.int .i64 (rightK e))/\Below W.heap.size W w'):=LH (fun W hW=>Right_any e v W hf ((hs.bel hW).more (fun x hx=>Nat.lt_of_lt_of_le hx hW.size)))
 have HO:Hid (∀ bh bv bo W,rightE e 24=true->Below w.heap.size w W->OfSt W bh bv bo here (.func (.func K) bd caps)->Calls Tryz.prog 270 #[.agg #[.string ⟨e.op.toArray⟩,.int .u16 e.n,.string ⟨e.name.toArray⟩,v],.pointer (some ⟨bh,0,none⟩),.pointer (some ⟨bv,0,none⟩),.pointer (some ⟨bo,0,none⟩)] W fun r w'=>r=.returned (.tuple #[.int .u16 (evalE here val e).1,.int .i64 (evalE here val e).2])/\Below W.heap.size W w'):=
  LH (fun bh bv bo W hr hW ho=>of_all w bh bv bo here hh K bd caps val hv e 24 v W hr hf hW ho ((hs.bel hW).more (fun x hx=>Nat.lt_of_lt_of_le hx hW.size)))
 have HK:Hid (rightK e=if rightE e 24 then 0 else 2):=LH rfl
 have HE:Hid (evalK here val e=if rightE e 24 then evalE here val e else (0,2)):=LH rfl
 obtain ⟨A,c,rfl,_,_⟩:=hs.form
 generalize rightK e=rk at *
 generalize evalK here val e=res at *
 clear hs hf hv
 have hq:=eq_func K bd caps
 have hbw : Below w.heap.size w (((w.alloc (.cells #[.string ⟨e.op.toArray⟩, .int .u16 e.n, .string ⟨e.name.toArray⟩, .slice A e.sub.length c] 70)).alloc (.cells #[.int .u16 here] 22)).alloc (.cells #[.func (.func K) bd caps] 247)) := (((Below.refl _ _).alloc (Nat.le_refl _) _).alloc (by simp) _).alloc (by simp; omega) _
 cases hr:rightE e 24 with
 | true=>
  rw [hr] at HK HE
  have HO':=LH (fun bh bv bo W=>HO.out bh bv bo W hr)
  have hrk:rk=0:=HK.out
  subst hrk
  clear HO hr HK
  generalize evalE here val e=ev at *
  go_enter Tryz.func253, Tryz.ntmps253
  go_wp2_with fail
  refine (HR.out _ hbw).mono ?_
  rintro e0 w2 ⟨rfl,hb2⟩
  have hz:w.heap.size+3<=w2.heap.size:=by have:=hb2.size;simp at this;omega
  have hz0:w.heap.size<w2.heap.size:=by omega
  have hz1:w.heap.size+1<w2.heap.size:=by omega
  have hz2:w.heap.size+2<w2.heap.size:=by omega
  obtain ⟨j0,j1,j2⟩:=alloc3 hb2
  have k0:=coh (i:=0) j0
  have k1:=coh (i:=1) j0
  have k2:=coh (i:=2) j0
  have k3:=coh (i:=3) j0
  have k4:=coh (i:=0) j1
  have k5:=coh (i:=0) j2
  simp at k0 k1 k2 k3 k4 k5
  clear j0 j1 j2
  have hb3:=LH (bthen hbw hb2)
  clear hbw hb2 HR
  go_wp2_with fail
  refine (HO'.out (w.heap.size+1) (w.heap.size+1+1) w2.heap.size _ (hb3.out.alloc hb3.out.size _) ?_).mono ?_
  ·refine ⟨?_,?_,?_⟩
   ·rw [World.cell?_alloc_lt _ _ _ hz1];exact k4
   ·rw [World.cell?_alloc_lt _ _ _ hz2];exact k5
   ·exact new_at w2 _ _ 0 _ rfl
  rintro e0 w3 ⟨rfl,hb4⟩
  have hb5:=bthen (hb3.out.alloc hb3.out.size _) hb4
  clear hb4 HO' k0 k1 k2 k3 k4 k5
  go_wp2_with fail
  go_ret2
  rw [HE.out]
  exact ⟨rfl,hb5⟩
 | false=>
  rw [hr] at HK HE
  have hrk:rk=2:=HK.out
  subst hrk
  clear HO hr HK
  go_enter Tryz.func253, Tryz.ntmps253
  go_wp2_with fail
  refine (HR.out _ hbw).mono ?_
  rintro e0 w2 ⟨rfl,hb2⟩
  have hb3:=bthen hbw hb2
  clear hbw hb2 HR
  go_wp2_with fail
  go_ret2
  rw [HE.out]
  exact ⟨rfl,hb3⟩
end Go.Proofs.YtbdnbfacalfciaaGreatDoor
