/- Xu. -/
import Derived.Test.YtijgppokofganaaGreatDoorXa
import Derived.Test.YtijgppokofganaaGreatDoorXp
import Derived.Test.YtijgppokofganaaGreatDoorKn
import Derived.Test.YtijgppokofganaaGreatDoorKe
import Derived.Test.YtijgppokofganaaGreatDoorXg
import Derived.Deep.RegionWith
import Derived.Deep.QuietTactic
import Derived.BigQuiet
import Derived.BigRegion
import Derived.Lib.QuietBelow
import Derived.Test.YtijgppokofganaaGreatDoorXn
namespace Go.Proofs.YtijgppokofganaaGreatDoor
set_option maxRecDepth 100000
set_option maxHeartbeats 4000000
def fitR (want:List UInt8) (a:Ar):Bool × Nat:=
 if want=sD8∨want = [110] then (plainA a,1) else if want=sD16∨want = [110,110] then (plainA a,2)
 else if want = [40,110,41] then (a.mem,1) else if want = [40,110,110,41] then (a.mem,2) else (a.w == want,0)
def fitsR:List (List UInt8)->List Ar->Bool
 | [],[]=>true
 | x :: r,a :: l=>(fitR x a).1 && fitsR r l
 | _,_=>false
def kindR:List (List UInt8)->List Ar->Nat->Option (Nat × Nat)->Option (Nat × Nat)
 | x :: r,a :: l,i,e=>kindR r l (i+1) (if 0<(fitR x a).2 then some (i,(fitR x a).2) else e)
 | _,_,_,e=>e
def isOf (s:St) (op:Nat):Bool:=(words80 op).length == s.args.length+1 && name80 op == s.op && fitsR (args80 op) s.args
def of80R (s:St):Option Nat:=(List.range 256).find? (isOf s)
def names8:List (List UInt8):=((List.range 256).filter fun op=>size80 op == 2).map name80
def names16:List (List UInt8):=((List.range 256).filter fun op=>size80 op == 3).map name80
def okW (op:Nat):Bool:=
  (args80 op).dropLast.all (fun x=>x != sD8 && x != sD16) && (args80 op).all (fun x=>x != [] && x != [110] && x != [110,110] && x != [40,110,41] && x != [40,110,110,41]) &&
  (if name80 op∈names8 then size80 op == 2 && (args80 op).getLast? == some sD8 else if name80 op∈names16 then size80 op == 3 && (args80 op).getLast? == some sD16
   else (args80 op).getLast? != some sD8 && (args80 op).getLast? != some sD16 && decide (size80 op<=1)) && ((words80 op == []) || (words80 op == name80 op :: args80 op && size80 op != 0))
theorem okW_all:∀ k:Fin 256,okW k.val=true:=by decide +kernel
theorem names_apart:∀ x∈names8,x∉names16:=by decide +kernel
def insA (a:Ar):Prop:=plainA a=(a.w == [])/\a.w≠sD8/\a.w≠sD16/\a.mem=false
theorem fitR_ins {a:Ar} (h:insA a) {x:List UInt8} (hx:x≠[110]/\x≠[110,110]/\x≠[40,110,41]/\x≠[40,110,110,41]):fitR x a=if x=sD8 then (a.w == [],1) else if x=sD16 then (a.w == [],2) else (a.w == x,0):=by
 unfold fitR
 simp only [hx.1,hx.2.1,hx.2.2.1,hx.2.2.2,or_false,if_false,h.1]
theorem fits_words (num:List UInt8) (hn:num=sD8∨num=sD16) (xs:List (List UInt8)):∀ l:List Ar,(∀ a∈l,insA a)->(∀ x∈xs,x≠[]/\x≠[110]/\x≠[110,110]/\x≠[40,110,41]/\x≠[40,110,110,41])->(∀ x∈xs,(x=sD8∨x=sD16)->x=num) ->
  (fitsR xs l=true ↔ xs=wordsRw num l):=by
 induction xs with
 | nil=>intro l _ _ _;cases l <;> simp [fitsR,wordsRw]
 | cons x r ih=>
  intro l hl hx hu
  cases l with
  | nil=>simp [fitsR,wordsRw]
  | cons a l=>
   have h1:=ih l (fun a ha=>hl a (by simp [ha])) (fun x hx'=>hx x (by simp [hx'])) (fun x hx'=>hu x (by simp [hx']))
   have ha:=hl a (by simp)
   have hx1:=hx x (by simp)
   simp only [fitsR,Bool.and_eq_true,h1,wordsRw,List.map_cons,List.cons.injEq]
   rw [fitR_ins ha hx1.2]
   refine and_congr_left (fun _=>?_)
   by_cases h8:x=sD8
   ·rw [if_pos h8]
    have:=hu x (by simp) (.inl h8)
    simp only [beq_iff_eq]
    constructor
    ·intro hw;rw [if_pos hw];exact this
    ·intro hw
     by_cases hw2:a.w = []
     ·exact hw2
     ·rw [if_neg hw2] at hw;exact absurd (hw.symm.trans h8) ha.2.1
   ·rw [if_neg h8]
    by_cases h16:x=sD16
    ·rw [if_pos h16]
     have:=hu x (by simp) (.inr h16)
     simp only [beq_iff_eq]
     constructor
     ·intro hw;rw [if_pos hw];exact this
     ·intro hw
      by_cases hw2:a.w = []
      ·exact hw2
      ·rw [if_neg hw2] at hw;exact absurd (hw.symm.trans h16) ha.2.2.1
    ·rw [if_neg h16]
     simp only [beq_iff_eq]
     constructor
     ·intro hw
      rw [if_neg (by rw [hw];exact hx1.1)]
      exact hw.symm
     ·intro hw
      by_cases hw2:a.w = []
      ·rw [if_pos hw2] at hw
       rcases hn with rfl | rfl
       ·exact absurd hw h8
       ·exact absurd hw h16
      ·rw [if_neg hw2] at hw;exact hw.symm
theorem find80_some {n:List UInt8} {ws:List (List UInt8)} {op:Nat} (h:find80 n ws=some op):op<256/\words80 op=n :: ws/\name80 op=n/\args80 op=ws:=by
 have h1:=List.mem_of_find?_eq_some h
 have h2:=List.find?_some h
 simp only [beq_iff_eq] at h2
 exact ⟨List.mem_range.1 h1,h2,by unfold name80;rw [h2];rfl,by unfold args80;rw [h2];rfl⟩
theorem mem_words {num x:List UInt8} {l:List Ar} (hl:∀ a∈l,insA a) (h:x∈wordsRw num l) (hx:x=sD8∨x=sD16):(∃ a∈l,a.w = [])/\num=x:=by
 obtain ⟨a,ha,he⟩:=List.mem_map.1 h
 by_cases hw:a.w = []
 ·rw [if_pos hw] at he;exact ⟨⟨a,ha,hw⟩,he⟩
 ·rw [if_neg hw] at he
  rcases hx with rfl | rfl
  ·exact absurd he (hl a ha).2.1
  ·exact absurd he (hl a ha).2.2.1
theorem pos_some (l:List Ar):(exprPos l).isSome=true ↔ ∃ a∈l,a.w = []:=by
 unfold exprPos
 rw [List.findIdx?_isSome]
 simp
theorem okW_at {op:Nat} (h:op<256):(∀ x∈(args80 op).dropLast,x≠sD8/\x≠sD16)/\(∀ x∈args80 op,x≠[]/\x≠[110]/\x≠[110,110]/\x≠[40,110,41]/\x≠[40,110,110,41]) /\
  (name80 op∈names8->size80 op=2/\(args80 op).getLast? = some sD8)/\(name80 op∉names8->name80 op∈names16->size80 op=3/\(args80 op).getLast? = some sD16) /\
  (name80 op∉names8->name80 op∉names16->(args80 op).getLast?≠some sD8/\(args80 op).getLast?≠some sD16/\size80 op<=1)/\(words80 op = []∨(words80 op=name80 op :: args80 op/\size80 op≠0)):=by
 have h1:=okW_all ⟨op,h⟩
 unfold okW at h1
 simp only [Bool.and_eq_true,List.all_eq_true,bne_iff_ne] at h1
 obtain ⟨⟨⟨h2,h3⟩,h4⟩,h5⟩:=h1
 refine ⟨fun x hx=>by have:=h2 x hx;simpa using this,fun x hx=>by have:=h3 x hx;simpa [and_assoc] using this,fun hn=>?_,fun hn hm=>?_,fun hn hm=>?_,?_⟩
 ·rw [if_pos hn] at h4;simpa using h4
 ·rw [if_neg hn,if_pos hm] at h4;simpa using h4
 ·rw [if_neg hn,if_neg hm] at h4;simpa [and_assoc] using h4
 ·simpa using h5
theorem last_mem {α:Type} {l:List α} {x:α} (h:l.getLast? = some x):x∈l:=List.mem_of_getLast? h
theorem split_last {l:List (List UInt8)} (h:l.getLast?≠some sD8/\l.getLast?≠some sD16) (hd:∀ x∈l.dropLast,x≠sD8/\x≠sD16):∀ x∈l,x≠sD8/\x≠sD16:=by
 intro x hx
 rcases List.eq_nil_or_concat l with rfl | ⟨r,y,rfl⟩
 ·cases hx
 ·rw [List.concat_eq_append] at *
  rw [List.dropLast_concat] at hd
  rw [List.getLast?_concat] at h
  rcases List.mem_append.1 hx with h1 | h1
  ·exact hd x h1
  ·have:x=y:=by simpa using h1
   subst this
   exact ⟨fun e=>h.1 (by rw [e]),fun e=>h.2 (by rw [e])⟩
theorem isOf_iff (s:St) (hl:∀ a∈s.args,insA a) (num:List UInt8) (hn:num=sD8∨num=sD16) (op:Nat) (h:op<256) (hu:∀ x∈args80 op,(x=sD8∨x=sD16)->x=num):isOf s op=(words80 op == s.op :: wordsRw num s.args):=by
 obtain ⟨_,h2,_,_,_,h6⟩:=okW_at h
 have hw:=fits_words num hn (args80 op) s.args hl h2 hu
 rw [Bool.eq_iff_iff]
 unfold isOf
 simp only [Bool.and_eq_true,beq_iff_eq,hw]
 rcases h6 with h6 | ⟨h6,_⟩
 ·rw [h6]
  constructor
  ·rintro ⟨⟨h7,_⟩,_⟩;simp at h7
  ·intro h7;cases h7
 ·constructor
  ·rintro ⟨⟨_,h7⟩,h8⟩
   rw [h6,h7,h8]
  ·intro h7
   rw [h6] at h7
   injection h7 with h7 h8
   refine ⟨⟨?_,h7⟩,h8⟩
   rw [h6,h8]
   simp [wordsRw]
theorem find?_congr' {α:Type} (p q:α->Bool):∀ l:List α,(∀ x∈l,p x=q x)->l.find? p=l.find? q:=by
 intro l
 induction l with
 | nil=>intro _;rfl
 | cons a r ih=>
  intro h
  rw [List.find?_cons,List.find?_cons,h a (by simp),ih (fun x hx=>h x (by simp [hx]))]
theorem of80_find (s:St) (hl:∀ a∈s.args,insA a) (num:List UInt8) (hn:num=sD8∨num=sD16) (hu:∀ op,op<256->name80 op=s.op->∀ x∈args80 op,(x=sD8∨x=sD16)->x=num):of80R s=find80 s.op (wordsRw num s.args):=by
 unfold of80R find80
 refine find?_congr' _ _ _ (fun op hop=>?_)
 have h:=List.mem_range.1 hop
 by_cases hne:name80 op=s.op
 ·exact isOf_iff s hl num hn op h (hu op h hne)
 ·have e1:isOf s op=false:=by unfold isOf;simp [hne]
  rw [e1]
  symm
  rw [beq_eq_false_iff_ne]
  intro h2
  exact hne (by unfold name80;rw [h2];rfl)
theorem of80_eq (s:St) (hl:∀ a∈s.args,insA a):of80R s=opcodeRw s:=by
 have hmem:∀ {num:List UInt8} {op:Nat},find80 s.op (wordsRw num s.args)=some op->∀ x,(x=sD8∨x=sD16)->x∈args80 op->(∃ a∈s.args,a.w = [])/\num=x:=fun h x hx hm=>by
  rw [(find80_some h).2.2.2] at hm
  exact mem_words hl hm hx
 by_cases h8:s.op∈names8
 ·have h16:=names_apart _ h8
  have hf:∀ {num op},find80 s.op (wordsRw num s.args)=some op->(∃ a∈s.args,a.w = [])/\num=sD8/\size80 op=2:=fun h=>by
   obtain ⟨h1,_,h3,_⟩:=find80_some h
   have h4:=(okW_at h1).2.2.1 (by rw [h3];exact h8)
   obtain ⟨h5,h6⟩:=hmem h sD8 (.inl rfl) (last_mem h4.2)
   exact ⟨h5,h6,h4.1⟩
  have hno:∀ num,num≠sD8->tryRw s num=none:=fun num hne=>by
   unfold tryRw
   cases hfi:find80 s.op (wordsRw num s.args) with
   | none=>rfl
   | some op=>exact absurd (hf hfi).2.1 hne
  have h0:=of80_find s hl sD8 (.inl rfl) (fun op hop hne x hx hx2=>by
   obtain ⟨k1,k2,k3,_⟩:=okW_at hop
   have h4:=(k3 (by rw [hne];exact h8)).2
   rcases hx2 with rfl | rfl
   ·rfl
   ·exfalso
    rcases List.eq_nil_or_concat (args80 op) with e | ⟨r,y,e⟩
    ·rw [e] at hx;cases hx
    ·rw [List.concat_eq_append] at e
     rw [e,List.dropLast_concat] at k1
     rw [e,List.getLast?_concat] at h4
     rw [e] at hx
     rcases List.mem_append.1 hx with h5 | h5
     ·exact (k1 _ h5).2 rfl
     ·have:sD16=y:=by simpa using h5
      rw [← this] at h4
      cases h4)
  rw [h0]
  unfold opcodeRw
  rw [hno [] (by decide),hno sD16 (by decide)]
  have:tryRw s sD8=find80 s.op (wordsRw sD8 s.args):=by
   unfold tryRw
   cases hfi:find80 s.op (wordsRw sD8 s.args) with
   | none=>rfl
   | some op=>
    obtain ⟨h1,_,h2⟩:=hf hfi
    simp only
    rw [if_pos]
    rw [h2]
    exact propext ⟨fun _=>(pos_some _).2 h1,fun _=>by decide⟩
  simp only [this]
  cases find80 s.op (wordsRw sD8 s.args) <;> rfl
 ·by_cases h16:s.op∈names16
  ·have hf:∀ {num op},find80 s.op (wordsRw num s.args)=some op->(∃ a∈s.args,a.w = [])/\num=sD16/\size80 op=3:=fun h=>by
    obtain ⟨h1,_,h3,_⟩:=find80_some h
    have h4:=(okW_at h1).2.2.2.1 (by rw [h3];exact h8) (by rw [h3];exact h16)
    obtain ⟨h5,h6⟩:=hmem h sD16 (.inr rfl) (last_mem h4.2)
    exact ⟨h5,h6,h4.1⟩
   have hno:∀ num,num≠sD16->tryRw s num=none:=fun num hne=>by
    unfold tryRw
    cases hfi:find80 s.op (wordsRw num s.args) with
    | none=>rfl
    | some op=>exact absurd (hf hfi).2.1 hne
   have h0:=of80_find s hl sD16 (.inr rfl) (fun op hop hne x hx hx2=>by
    obtain ⟨k1,k2,_,k3,_⟩:=okW_at hop
    have h4:=(k3 (by rw [hne];exact h8) (by rw [hne];exact h16)).2
    rcases hx2 with rfl | rfl
    ·exfalso
     rcases List.eq_nil_or_concat (args80 op) with e | ⟨r,y,e⟩
     ·rw [e] at hx;cases hx
     ·rw [List.concat_eq_append] at e
      rw [e,List.dropLast_concat] at k1
      rw [e,List.getLast?_concat] at h4
      rw [e] at hx
      rcases List.mem_append.1 hx with h5 | h5
      ·exact (k1 _ h5).1 rfl
      ·have:sD8=y:=by simpa using h5
       rw [← this] at h4
       cases h4
    ·rfl)
   rw [h0]
   unfold opcodeRw
   rw [hno [] (by decide),hno sD8 (by decide)]
   simp only
   unfold tryRw
   cases hfi:find80 s.op (wordsRw sD16 s.args) with
   | none=>rfl
   | some op=>
    obtain ⟨h1,_,h2⟩:=hf hfi
    simp only
    rw [if_pos]
    rw [h2]
    exact propext ⟨fun _=>(pos_some _).2 h1,fun _=>by decide⟩
  ·have hno:∀ op,op<256->name80 op=s.op->(∀ x∈args80 op,x≠sD8/\x≠sD16)/\size80 op<=1:=fun op hop hne=>by
    obtain ⟨k1,_,_,_,k5,_⟩:=okW_at hop
    have:=k5 (by rw [hne];exact h8) (by rw [hne];exact h16)
    exact ⟨split_last ⟨this.1,this.2.1⟩ k1,this.2.2⟩
   have h0:=of80_find s hl sD8 (.inl rfl) (fun op hop hne x hx hx2=>by
    rcases hx2 with rfl | rfl
    ·rfl
    ·exact absurd rfl ((hno op hop hne).1 _ hx).2)
   rw [h0]
   by_cases hp:∃ a∈s.args,a.w = []
   ·obtain ⟨a,ha,hw⟩:=hp
    have hall:∀ num,(num = []∨num=sD8∨num=sD16)->find80 s.op (wordsRw num s.args)=none:=fun num hnum=>by
     cases hfi:find80 s.op (wordsRw num s.args) with
     | none=>rfl
     | some op=>
      exfalso
      obtain ⟨h1,_,h3,h4⟩:=find80_some hfi
      have hm:num∈args80 op:=by
       rw [h4]
       exact List.mem_map.2 ⟨a,ha,if_pos hw⟩
      rcases hnum with rfl | rfl | rfl
      ·exact ((okW_at h1).2.1 _ hm).1 rfl
      ·exact ((hno op h1 h3).1 _ hm).1 rfl
      ·exact ((hno op h1 h3).1 _ hm).2 rfl
    have ht:∀ num,(num = []∨num=sD8∨num=sD16)->tryRw s num=none:=fun num h=>by unfold tryRw;rw [hall num h]
    unfold opcodeRw
    rw [ht [] (by simp),ht sD8 (by simp),ht sD16 (by simp),hall sD8 (by simp)]
   ·have hsame:∀ num num',wordsRw num s.args=wordsRw num' s.args:=fun num num'=>by
     unfold wordsRw
     refine List.map_congr_left (fun a ha=>?_)
     have hw:a.w≠[]:=fun e=>hp ⟨a,ha,e⟩
     rw [if_neg hw,if_neg hw]
    have hpn:(exprPos s.args).isSome=false:=by
     rw [Bool.eq_false_iff]
     exact fun h=>hp ((pos_some _).1 h)
    have ht:∀ num,tryRw s num=find80 s.op (wordsRw sD8 s.args):=fun num=>by
     unfold tryRw
     rw [hsame num sD8]
     cases hfi:find80 s.op (wordsRw sD8 s.args) with
     | none=>rfl
     | some op=>
      obtain ⟨h1,_,h3,_⟩:=find80_some hfi
      have:=(hno op h1 h3).2
      simp only
      rw [if_pos]
      rw [hpn]
      exact propext ⟨fun h=>by omega,fun h=>by cases h⟩
    unfold opcodeRw
    rw [ht,ht,ht]
    cases find80 s.op (wordsRw sD8 s.args) <;> rfl
theorem trim_cases (s:List UInt8):trimU s=s ∨ ∃ r,s=r++[95]:=by
 unfold trimU
 rcases List.eq_nil_or_concat s with rfl | ⟨r,c,rfl⟩
 ·exact .inl rfl
 ·rw [List.concat_eq_append]
  by_cases hc:c=95
  ·exact .inr ⟨r,by rw [hc]⟩
  ·left
   rw [List.reverse_append,List.reverse_singleton,List.singleton_append,List.dropWhile_cons]
   simp [hc]
theorem res_mark (r:List UInt8):resB 1 (r++[95])=false:=by
 unfold resB
 rw [if_neg (by decide),if_pos rfl,decide_eq_false_iff_not]
 intro h
 have h2:∀ x∈zilogW,x.getLast?≠some 95:=by decide
 exact h2 _ h (by simp)
theorem sets_mark (r:List UInt8):setsB (r++[95])=false:=by
 unfold setsB
 rw [decide_eq_false_iff_not]
 intro h
 have h2:∀ x∈[sEQU,sSET],x.getLast?≠some 95:=by decide
 exact h2 _ h (by simp)
theorem name_mark (s:List UInt8) (h:nameB s=true) (hl:s.length<16):nameB (s++[95])=true:=by
 unfold nameB at *
 simp only [Bool.and_eq_true,decide_eq_true_eq,List.all_eq_true,Bool.or_eq_true] at *
 obtain ⟨⟨⟨h1,h2⟩,h3⟩,h4⟩:=h
 refine ⟨⟨⟨by simp,by simp;omega⟩,?_⟩,?_⟩
 ·cases s with
  | nil=>simp at h1
  | cons a r=>exact h3
 ·intro c hc
  rcases List.mem_append.1 hc with h5 | h5
  ·exact h4 c h5
  ·have:c=95:=by simpa using h5
   subst this
   exact .inl (by decide)
theorem ren_plain {m:List UInt8} (h:plainB 0 m=true) (h2:(renA m).2=0):plainB 1 (renA m).1=true:=by
 unfold plainB at h
 simp only [Bool.and_eq_true,Bool.not_eq_true'] at h
 obtain ⟨⟨hg,hr⟩,hs⟩:=h
 unfold renA at *
 unfold plainB
 by_cases c:resB 1 (trimU m)=false∨resB 0 (trimU m)=true
 ·rw [if_pos c]
  simp only [hg,hs,Bool.not_false,Bool.and_true,Bool.true_and,Bool.not_eq_true']
  rcases trim_cases m with e | ⟨r,e⟩
  ·rw [e] at c
   rcases c with c | c
   ·exact c
   ·rw [hr] at c;cases c
  ·rw [e];exact res_mark r
 ·rw [if_neg c] at h2 ⊢
  by_cases cl:16<=m.length
  ·rw [if_pos cl] at h2;cases h2
  ·rw [if_neg cl]
   simp only [res_mark,sets_mark,Bool.not_false,Bool.and_true]
   unfold greatB at *
   simp only [Bool.and_eq_true,beq_iff_eq] at *
   exact ⟨name_mark m hg.1 (by omega),by rw [upper_append,hg.2];rfl⟩
theorem plain_head {m:List UInt8} (h:plainB 1 m=true) (k:Nat) (hk:k=0):headE sN 0 m k=true:=by
 unfold plainB greatB resB at h
 simp only [Bool.and_eq_true,Bool.not_eq_true',beq_iff_eq] at h
 obtain ⟨⟨⟨h1,h2⟩,h3⟩,_⟩:=h
 simp only [show ¬((1:Int)=0) by decide,if_false,if_true,decide_eq_false_iff_not] at h3
 have h4:wordE m=false:=by
  unfold wordE
  rw [decide_eq_false_iff_not]
  rintro (rfl | rfl | rfl | rfl | rfl | rfl | rfl) <;> exact h3 (by decide)
 unfold headE
 simp [h1,h2,h4,hk,bindsE]
theorem renL_map (s:List Ex) (h:(renL s).2=0):(renL s).1=s.map (fun e=>(renE e).1)/\∀ e∈s,(renE e).2=0:=by
 induction s with
 | nil=>exact ⟨rfl,by simp⟩
 | cons a r ih=>
  simp only [renL] at h ⊢
  by_cases c1:(renE a).2≠0
  ·rw [if_pos c1] at h;exact absurd h c1
  ·rw [if_neg c1] at h ⊢
   by_cases c2:(renL r).2≠0
   ·rw [if_pos c2] at h;exact absurd h c2
   ·rw [if_neg c2]
    obtain ⟨e1,e2⟩:=ih (by simpa using c2)
    refine ⟨by rw [List.map_cons,e1],fun e he=>?_⟩
    rcases List.mem_cons.1 he with rfl | he
    ·simpa using c1
    ·exact e2 e he
theorem renE_mk {o:List UInt8} {n:Nat} {m:List UInt8} {s:List Ex} (h:(renE (.mk o n m s)).2=0) :
  (renE (.mk o n m s)).1=.mk o n (if o=sN then (renA m).1 else m) (s.map fun e=>(renE e).1)/\(o=sN->(renA m).2=0)/\∀ e∈s,(renE e).2=0:=by
 simp only [renE] at h ⊢
 by_cases c1:o=sN/\(renA m).2≠0
 ·rw [if_pos c1] at h;exact absurd h c1.2
 ·rw [if_neg c1] at h ⊢
  by_cases c2:(renL s).2≠0
  ·rw [if_pos c2] at h;exact absurd h c2
  ·rw [if_neg c2]
   obtain ⟨e1,e2⟩:=renL_map s (by simpa using c2)
   exact ⟨by rw [e1],fun ho=>Decidable.not_not.1 fun hx=>c1 ⟨ho,hx⟩,e2⟩
theorem namesL_flat (s:List Ex):namesL s=s.flatMap namesE:=by
 induction s with
 | nil=>rfl
 | cons a r ih=>simp only [namesL,List.flatMap_cons,ih]
theorem deepL_map (s:List Ex) (f:Ex->Ex) (h:∀ e∈s,deepE (f e)=deepE e):deepL (s.map f)=deepL s:=by
 induction s with
 | nil=>rfl
 | cons a r ih=>simp only [List.map_cons,deepL,h a (by simp),ih (fun e he=>h e (by simp [he]))]
theorem rightL_map (s:List Ex) (f:Ex->Ex) (d:Nat) (h:∀ e∈s,rightE e d=true->rightE (f e) d=true) (hs:rightL s d=true):rightL (s.map f) d=true:=by
 induction s with
 | nil=>rfl
 | cons a r ih=>
  simp only [rightL,Bool.and_eq_true] at hs
  simp only [List.map_cons,rightL,Bool.and_eq_true]
  exact ⟨h a (by simp) hs.1,ih (fun e he=>h e (by simp [he])) hs.2⟩
theorem renE_all (e:Ex):(renE e).2=0->deepE (renE e).1=deepE e/\(namesE (renE e).1).length=(namesE e).length /\
  ((namesE e).all (plainB 0)=true->(namesE (renE e).1).all (plainB 1)=true/\∀ d,rightE e d=true->rightE (renE e).1 d=true):=by
 refine Ex.ind (P:=fun e=>(renE e).2=0->deepE (renE e).1=deepE e/\(namesE (renE e).1).length=(namesE e).length /\
  ((namesE e).all (plainB 0)=true->(namesE (renE e).1).all (plainB 1)=true/\∀ d,rightE e d=true->rightE (renE e).1 d=true)) (fun o n m s ih h=>?_) e
 obtain ⟨e1,e2,e3⟩:=renE_mk h
 rw [e1]
 have hi:=fun e he=>ih e he (e3 e he)
 refine ⟨?_,?_,fun hp=>⟨?_,fun d hr=>?_⟩⟩
 ·simp only [deepE]
  rw [deepL_map s _ (fun e he=>(hi e he).1)]
 ·simp only [namesE,namesL_flat,List.length_append,List.length_flatMap,List.map_map]
  have h1:(s.map fun e=>(namesE (renE e).1).length)=s.map fun e=>(namesE e).length:=List.map_congr_left (fun e he=>(hi e he).2.1)
  simp only [Function.comp_def,h1]
  by_cases ho:o=sN <;> simp [ho]
 ·simp only [namesE,namesL_flat,List.all_append,Bool.and_eq_true,List.all_flatMap] at hp ⊢
  refine ⟨?_,?_⟩
  ·by_cases ho:o=sN
   ·simp only [if_pos ho,List.all_cons,List.all_nil,Bool.and_true] at hp ⊢
    exact ren_plain hp.1 (e2 ho)
   ·simp [ho]
  ·simp only [List.all_eq_true,List.all_map,Function.comp_def] at hp ⊢
   intro e he x hx
   have:=((hi e he).2.2 (by simpa using hp.2 e he)).1
   exact List.all_eq_true.1 this x hx
 ·simp only [rightE,Bool.and_eq_true,Bool.not_eq_true',beq_eq_false_iff_ne] at hr ⊢
  simp only [namesE,namesL_flat,List.all_append,Bool.and_eq_true,List.all_flatMap] at hp
  refine ⟨⟨hr.1.1,?_⟩,?_⟩
  ·rw [List.length_map]
   by_cases ho:o=sN
   ·have h1:=hp.1
    simp only [if_pos ho,List.all_cons,List.all_nil,Bool.and_true] at h1 ⊢
    rcases head_cases _ _ _ _ hr.1.2 with ⟨g,_⟩ | ⟨_,hk,hn,_⟩ | ⟨g,_⟩ | ⟨g,_⟩ | ⟨g,_⟩ | ⟨r,hb,_⟩
    ·rw [ho] at g;cases g
    ·rw [ho,hn];exact plain_head (ren_plain h1 (e2 ho)) _ hk
    ·rw [ho] at g;cases g
    ·rw [ho] at g;cases g
    ·rw [ho] at g;cases g
    ·exact absurd ho hb.binds.2.2.1
   ·rw [if_neg ho];exact hr.1.2
  ·refine rightL_map s _ _ (fun e he h1=>((hi e he).2.2 ?_).2 _ h1) hr.2
   simp only [List.all_eq_true] at hp ⊢
   intro x hx
   exact hp.2 e he x hx
theorem names_ex0:namesE ex0 = []:=by simp [ex0,namesE,namesL]
theorem empty_e {a:Ar} (h:emptyA a=true):a.e=ex0:=by
 unfold emptyA at h
 simp only [Bool.and_eq_true] at h
 exact (sameE_iff _ _).1 h.1
theorem ar_right {op:List UInt8} {a:Ar} (h:rightA 0 op a=true) (h2:(renAr a).2=0) :
  (renAr a).1.w=a.w/\(renAr a).1.is=a.is/\(namesE (renAr a).1.e).length=(namesE a.e).length/\(a.w≠[]->namesE (renAr a).1.e = []) /\
  (a.w = []->op≠sDB->(renAr a).1.is=false/\rightE (renAr a).1.e 24=true/\(namesE (renAr a).1.e).all (plainB 1)=true/\deepE (renAr a).1.e=deepE a.e)/\(a.w = []->rightA 1 op (renAr a).1=true):=by
 unfold rightA at h
 by_cases hw:a.w≠[]
 ·rw [if_pos hw] at h
  simp only [Bool.and_eq_true] at h
  have he:=empty_e h.1.1.1
  have e1:renAr a=(a,0):=by unfold renAr;rw [if_pos (.inl hw)]
  rw [e1]
  exact ⟨rfl,rfl,rfl,fun _=>by rw [he,names_ex0],fun h=>absurd h hw,fun h=>absurd h hw⟩
 ·rw [if_neg hw] at h
  have hw:a.w = []:=Decidable.not_not.1 hw
  by_cases hi:a.is=true
  ·rw [if_pos hi] at h
   have e1:renAr a=(a,0):=by unfold renAr;rw [if_pos (.inr hi)]
   rw [e1]
   simp only [Bool.and_eq_true,beq_iff_eq] at h
   refine ⟨rfl,rfl,rfl,fun h=>absurd hw h,fun _ hne=>absurd h.1.2 hne,fun _=>?_⟩
   unfold rightA
   rw [if_neg (by simpa using hw),if_pos hi]
   simp only [Bool.and_eq_true,beq_iff_eq]
   exact h
  ·rw [if_neg hi] at h
   have e1:renAr a=(⟨a.w,a.t,a.is,a.mem,(renE a.e).1⟩,(renE a.e).2):=by
    unfold renAr;rw [if_neg (by rintro (h | h);exact h hw;exact hi h)]
   rw [e1] at h2 ⊢
   have h2:(renE a.e).2=0:=h2
   by_cases c:a.t≠[]∨(a.mem=true/\(0:Int)=0)∨rightE a.e 24=false
   ·rw [if_pos c] at h;cases h
   ·rw [if_neg c] at h
    have ct:a.t = []:=Decidable.not_not.1 fun hx=>c (.inl hx)
    have cm:a.mem=false:=Bool.eq_false_iff.2 fun hx=>c (.inr (.inl ⟨hx,rfl⟩))
    have cr:rightE a.e 24=true:=by
     cases hx:rightE a.e 24 with
     | true=>rfl
     | false=>exact absurd (.inr (.inr hx)) c
    obtain ⟨k1,k2,k3⟩:=renE_all a.e h2
    obtain ⟨k4,k5⟩:=k3 h
    have hi:a.is=false:=by simpa using hi
    refine ⟨rfl,rfl,k2,fun h=>absurd hw h,fun _ _=>⟨hi,k5 24 cr,k4,k1⟩,fun _=>?_⟩
    unfold rightA
    simp only [hw,hi,ct,cm,k5 24 cr,ne_eq,not_true,if_false,Bool.false_eq_true,false_and,false_or,Bool.true_eq_false,k4]
theorem renArs_map (l:List Ar) (h:(renArs l).2=0):(renArs l).1=l.map (fun a=>(renAr a).1)/\∀ a∈l,(renAr a).2=0:=by
 induction l with
 | nil=>exact ⟨rfl,by simp⟩
 | cons a r ih=>
  simp only [renArs] at h ⊢
  by_cases c1:(renAr a).2≠0
  ·rw [if_pos c1] at h;exact absurd h c1
  ·rw [if_neg c1] at h ⊢
   by_cases c2:(renArs r).2≠0
   ·rw [if_pos c2] at h;exact absurd h c2
   ·rw [if_neg c2]
    obtain ⟨e1,e2⟩:=ih (by simpa using c2)
    refine ⟨by rw [List.map_cons,e1],fun e he=>?_⟩
    rcases List.mem_cons.1 he with rfl | he
    ·simpa using c1
    ·exact e2 e he
theorem right_parts {d:Int} {s:St} (h:rightS d s=0):knownB d=true/\(s.label≠[]->plainB d s.label=true)/\(s.op = []->s.args = [])/\(s.op≠[]->greatB s.op=true) /\
  (setsB s.op=true->s.label≠[])/\s.colon=(!s.label.isEmpty && !setsB s.op)/\s.args.length<=32/\s.args.all (rightA d s.op)=true:=by
 unfold rightS at h
 by_cases c1:knownB d=false
 ·rw [if_pos c1] at h;cases h
 rw [if_neg c1] at h
 by_cases c2:s.label≠[]/\plainB d s.label=false
 ·rw [if_pos c2] at h;cases h
 rw [if_neg c2] at h
 by_cases c3:(s.op = []/\s.args≠[])∨(s.op≠[]/\greatB s.op=false)
 ·rw [if_pos c3] at h;cases h
 rw [if_neg c3] at h
 by_cases c4:(setsB s.op=true/\s.label = [])∨s.colon≠(!s.label.isEmpty && !setsB s.op)∨32<s.args.length
 ·rw [if_pos c4] at h;cases h
 rw [if_neg c4] at h
 by_cases c5:s.args.all (rightA d s.op)=false
 ·rw [if_pos c5] at h;cases h
 simp only [not_or,not_and,Bool.not_eq_false,ne_eq,Decidable.not_not,Nat.not_lt] at c1 c2 c3 c4 c5
 exact ⟨c1,c2,c3.1,c3.2,c4.1,c4.2.1,c4.2.2,c5⟩
theorem pos_zero {a:Ar} {r:List Ar} (h:exprPos (a :: r)=some 0):a.w = []:=by
 unfold exprPos at h
 rw [List.findIdx?_cons] at h
 by_cases hw:a.w = []
 ·exact hw
 ·have:(a.w == [])=false:=by simpa using hw
  rw [this,if_neg (by decide)] at h
  cases hx:List.findIdx? (fun a=>a.w == []) r <;> rw [hx] at h <;> simp at h
theorem ins_of {op:List UInt8} {a:Ar} (h:rightA 0 op a=true) (hop:op≠sDB):insA a:=by
 unfold rightA at h
 by_cases hw:a.w≠[]
 ·rw [if_pos hw] at h
  simp only [Bool.and_eq_true] at h
  obtain ⟨⟨⟨h1,_⟩,_⟩,h4⟩:=h
  unfold emptyA at h1
  simp only [Bool.and_eq_true,Bool.not_eq_true'] at h1
  refine ⟨?_,fun e=>?_,fun e=>?_,h1.2⟩
  ·have hb:(a.w == [])=false:=by simpa using hw
   unfold plainA;rw [hb];rfl
  ·rw [e] at h4;exact absurd h4 (by decide)
  ·rw [e] at h4;exact absurd h4 (by decide)
 ·rw [if_neg hw] at h
  have hw:a.w = []:=Decidable.not_not.1 hw
  by_cases hi:a.is=true
  ·rw [if_pos hi] at h
   simp only [Bool.and_eq_true,beq_iff_eq] at h
   exact absurd h.1.2 hop
  ·rw [if_neg hi] at h
   by_cases c:a.t≠[]∨(a.mem=true/\(0:Int)=0)∨rightE a.e 24=false
   ·rw [if_pos c] at h;cases h
   ·have cm:a.mem=false:=Bool.eq_false_iff.2 fun hx=>c (.inr (.inl ⟨hx,rfl⟩))
    have hi:a.is=false:=by simpa using hi
    exact ⟨by unfold plainA;simp [hw,hi,cm],by rw [hw];decide,by rw [hw];decide,cm⟩
theorem renAr_w (a:Ar):(renAr a).1.w=a.w:=by
 unfold renAr
 split <;> rfl
theorem ren_words (l:List Ar) (h:(renArs l).2=0):(renArs l).1.map (·.w)=l.map (·.w):=by
 rw [(renArs_map l h).1,List.map_map]
 exact List.map_congr_left fun a _=>renAr_w a
theorem words_w (num:List UInt8) (l:List Ar):wordsRw num l=(l.map (·.w)).map (fun w=>if w = [] then num else w):=by
 unfold wordsRw
 rw [List.map_map]
 rfl
theorem pos_w (l:List Ar):exprPos l=(l.map (·.w)).findIdx? (· == []):=by
 unfold exprPos
 rw [List.findIdx?_map]
 rfl
theorem opcode_w {s t:St} (h1:s.op=t.op) (h2:s.args.map (·.w)=t.args.map (·.w)):opcodeRw s=opcodeRw t:=by
 have ht:∀ num,tryRw s num=tryRw t num:=fun num=>by
  unfold tryRw
  rw [words_w,words_w,pos_w,pos_w,h1,h2]
 unfold opcodeRw
 rw [ht,ht,ht]
theorem kind_pos:∀ (xs:List (List UInt8)) (l:List Ar) (i:Nat),(∀ a∈l,insA a)->(∀ x∈xs,x≠[]/\x≠[110]/\x≠[110,110]/\x≠[40,110,41]/\x≠[40,110,110,41])->(∀ x∈xs.dropLast,x≠sD8/\x≠sD16) ->
  fitsR xs l=true->(kindR xs l i none).map (·.1)=(exprPos l).map (i + ·):=by
 intro xs
 induction xs with
 | nil=>intro l i _ _ _ h;cases l with
  | nil=>rfl
  | cons a l=>cases h
 | cons x r ih=>intro l i hl hx hd h;cases l with
  | nil=>cases h
  | cons a l=>
   simp only [fitsR,Bool.and_eq_true] at h
   obtain ⟨h1,h2⟩:=h
   have hx1:=hx x (by simp)
   rw [fitR_ins (hl a (by simp)) hx1.2] at h1
   have hp:exprPos (a :: l)=if a.w = [] then some 0 else (exprPos l).map (· + 1):=by
    unfold exprPos
    rw [List.findIdx?_cons]
    by_cases hw:a.w = []
    ·simp [hw]
    ·have:(a.w == [])=false:=by simpa using hw
     rw [this,if_neg hw];rfl
   by_cases hn:x=sD8∨x=sD16
   ·have hw:a.w = []:=by
     rcases hn with e | e
     ·rw [if_pos e] at h1;simpa using h1
     ·rw [if_neg (fun h8=>absurd (h8.symm.trans e) (by decide)),if_pos e] at h1;simpa using h1
    have hr:r = []:=by
     cases r with
     | nil=>rfl
     | cons y r'=>
      have:=hd x (by simp)
      rcases hn with e | e
      ·exact absurd e this.1
      ·exact absurd e this.2
    subst hr
    have hl0:l = []:=by cases l with
     | nil=>rfl
     | cons b l=>cases h2
    subst hl0
    have h3:0<(fitR x a).2:=by
     rw [fitR_ins (hl a (by simp)) hx1.2]
     rcases hn with e | e
     ·rw [if_pos e];exact Nat.one_pos
     ·rw [if_neg (fun h8=>absurd (h8.symm.trans e) (by decide)),if_pos e];exact Nat.two_pos
    rw [hp,if_pos hw]
    simp [kindR,h3]
   ·have n1:x≠sD8:=fun e=>hn (.inl e)
    have n2:x≠sD16:=fun e=>hn (.inr e)
    rw [if_neg n1,if_neg n2] at h1
    have hw:a.w≠[]:=by
     have:a.w=x:=by simpa using h1
     rw [this];exact hx1.1
    have h3:¬ 0<(fitR x a).2:=by
     rw [fitR_ins (hl a (by simp)) hx1.2,if_neg n1,if_neg n2];simp
    rw [hp,if_neg hw]
    have h4:=ih l (i+1) (fun b hb=>hl b (by simp [hb])) (fun y hy=>hx y (by simp [hy])) (fun y hy=>hd y (by
     cases r with
     | nil=>cases hy
     | cons z r'=>rw [List.dropLast_cons_cons];exact List.mem_cons_of_mem _ hy)) h2
    have e5:kindR (x :: r) (a :: l) i none=kindR r l (i+1) none:=by rw [kindR,if_neg h3]
    rw [e5,h4]
    cases exprPos l with
    | none=>rfl
    | some k=>simp;omega
def of80P (s:St):Option (Nat × Option (Nat × Nat)):=(of80R s).map fun op=>(op,kindR (args80 op) s.args 0 none)
def eF (o:Option (Nat × Nat)) (l:List Ar):Ex:=match o with
 | none=>ex0
 | some (i,_)=>(l.getD i ar0).e
theorem dirs_db {op:List UInt8} (h:op∉dirOps):op≠sDB:=fun e=>h (by rw [e];decide)
theorem sw_ins {s:St} (h1:rightS 0 s=0) (hd:s.op∉dirOps):∀ a∈s.args,insA a:=fun a ha=>
 ins_of (List.all_eq_true.1 (right_parts h1).2.2.2.2.2.2.2 a ha) (dirs_db hd)
theorem turn_op {s:St} (hr:s.op≠sRST):turnRw s=match opcodeRw s with
  | none=>(s,2)
  | some op=>(⟨s.label,s.colon,zname op,(zargs op).map (argRw (exprRw s.args))⟩,0):=by
 unfold turnRw
 rw [if_neg hr]
 rfl
theorem sw_none {s:St} (h1:rightS 0 s=0) (h3:(renArs s.args).2=0) (hd:s.op∉dirOps) (hr:s.op≠sRST) (h:of80P s=none):(turnRw (renS s)).2=2:=by
 have h4:of80R s=none:=by
  unfold of80P at h
  cases ho:of80R s with
  | none=>rfl
  | some op=>rw [ho] at h;cases h
 have h5:opcodeRw (renS s)=opcodeRw s:=opcode_w rfl (ren_words s.args h3)
 rw [turn_op (s:=renS s) hr,h5,← of80_eq s (sw_ins h1 hd),h4]
theorem sw_some {s:St} (h1:rightS 0 s=0) (h3:(renArs s.args).2=0) (hd:s.op∉dirOps) (hr:s.op≠sRST) (op:Nat) (o:Option (Nat × Nat)) (h:of80P s=some (op,o)) :
  op<256/\turnRw (renS s)=(⟨(renA s.label).1,s.colon,zname op,(zargs op).map (argRw (eF o (renArs s.args).1))⟩,0)/\∀ i k,o=some (i,k)->i<s.args.length:=by
 have hins:=sw_ins h1 hd
 unfold of80P at h
 cases ho:of80R s with
 | none=>rw [ho] at h;cases h
 | some q=>
  rw [ho] at h
  injection h with h
  injection h with e1 e2
  subst e1
  have h5:opcodeRw (renS s)=opcodeRw s:=opcode_w rfl (ren_words s.args h3)
  have h6:q<256/\isOf s q=true:=by
   unfold of80R at ho
   exact ⟨List.mem_range.1 (List.mem_of_find?_eq_some ho),List.find?_some ho⟩
  obtain ⟨hq,h6⟩:=h6
  unfold isOf at h6
  simp only [Bool.and_eq_true] at h6
  obtain ⟨k1,k2,_⟩:=okW_at hq
  have h7:=kind_pos (args80 q) s.args 0 hins k2 k1 h6.2
  rw [e2] at h7
  have h8:exprPos (renArs s.args).1=exprPos s.args:=by rw [pos_w,pos_w,ren_words s.args h3]
  refine ⟨hq,?_,?_⟩
  ·rw [turn_op (s:=renS s) hr,h5,← of80_eq s hins,ho]
   have e9:exprRw (renS s).args=eF o (renArs s.args).1:=by
    show exprRw (renArs s.args).1=_
    unfold exprRw eF
    rw [h8]
    cases o with
    | none=>
     cases hp:exprPos s.args with
     | none=>rfl
     | some i=>rw [hp] at h7;simp at h7
    | some p=>
     obtain ⟨i,k⟩:=p
     cases hp:exprPos s.args with
     | none=>rw [hp] at h7;simp at h7
     | some j=>
      rw [hp] at h7
      have:i=j:=by simpa using h7
      subst this
      rfl
   rw [e9]
   rfl
  ·intro i k hik
   rw [hik] at h7
   cases hp:exprPos s.args with
   | none=>rw [hp] at h7;simp at h7
   | some j=>
    rw [hp] at h7
    have:i=j:=by simpa using h7
    subst this
    obtain ⟨hk,_,_⟩:=List.findIdx?_eq_some_iff_getElem.1 hp
    exact hk
def rstB (s:St):Bool:=decide (s.args.length=1) && plainA (s.args.getD 0 ar0)
def e8R (e:Ex):Ex:=if e.op = [35] then .mk [35] (e.n * 8 % 65536) [] [] else .mk [42] 0 [] [e,.mk [35] 8 [] []]
theorem e8_eq {e:Ex} (h:rightE e 24=true):e8R e=eightE e:=by
 obtain ⟨o,n,m,s⟩:=e
 unfold e8R eightE
 by_cases ho:o = [35]
 ·subst ho
  simp only [rightE,headE,Bool.and_eq_true] at h
  have h1:s.length=0:=by have:=h.1.2.1.1.2;simpa [bindsE] using this
  have h2:m = []:=by have:=h.1.2.2;rw [if_neg (by decide)] at this;simpa using this
  have h3:s = []:=List.length_eq_zero_iff.1 h1
  subst h2 h3
  rfl
 ·simp only [Ex.op,ho,if_false]
theorem sw_rst {s:St} (h1:rightS 0 s=0) (h3:(renArs s.args).2=0) (hop:s.op=sRST) :
  (rstB s=false->(turnRw (renS s)).2=2)/\(rstB s=true->0<s.args.length/\turnRw (renS s)=(⟨(renA s.label).1,s.colon,sRST,[⟨[],[],false,false,e8R ((renArs s.args).1.getD 0 ar0).e⟩]⟩,0)):=by
 have hd:s.op∉dirOps:=by rw [hop];decide
 have hins:=sw_ins h1 hd
 have hlen:(renArs s.args).1.length=s.args.length:=by
  have:=congrArg List.length (ren_words s.args h3);simpa using this
 have h8:exprPos (renArs s.args).1=exprPos s.args:=by rw [pos_w,pos_w,ren_words s.args h3]
 have ht:turnRw (renS s)=if (renArs s.args).1.length≠1∨exprPos (renArs s.args).1≠some 0 then (renS s,2) else (⟨(renA s.label).1,s.colon,sRST,[⟨[],[],false,false,eightE (arg0 (renS s))⟩]⟩,0):=by
  unfold turnRw
  rw [if_pos (show (renS s).op=sRST from hop)]
  rfl
 rw [hlen,h8] at ht
 have hb:rstB s=true ↔ ¬ (s.args.length≠1∨exprPos s.args≠some 0):=by
  unfold rstB
  constructor
  ·intro h
   simp only [Bool.and_eq_true,decide_eq_true_eq] at h
   obtain ⟨q1,q2⟩:=h
   obtain ⟨a,ha⟩:=List.length_eq_one_iff.1 q1
   rw [ha] at q2 ⊢
   have hw:a.w = []:=by
    have q2:plainA a=true:=q2
    unfold plainA at q2
    simp only [Bool.and_eq_true,beq_iff_eq] at q2
    exact q2.1.1
   rintro (h | h)
   ·exact h rfl
   ·exact h (by unfold exprPos;rw [List.findIdx?_cons];simp [hw])
  ·intro h
   have q1:s.args.length=1:=Decidable.not_not.1 fun e=>h (.inl e)
   have q2:exprPos s.args=some 0:=Decidable.not_not.1 fun e=>h (.inr e)
   obtain ⟨a,ha⟩:=List.length_eq_one_iff.1 q1
   have hi:=hins a (by rw [ha];simp)
   rw [ha] at q2
   have hw:=pos_zero q2
   rw [Bool.and_eq_true]
   refine ⟨by simp [q1],?_⟩
   rw [ha]
   show plainA a=true
   rw [hi.1,hw];rfl
 constructor
 ·intro h
  rw [ht,if_pos (Decidable.not_not.1 fun hn=>by rw [hb.2 hn] at h;cases h)]
 ·intro h
  have hn:=hb.1 h
  have q1:s.args.length=1:=Decidable.not_not.1 fun e=>hn (.inl e)
  refine ⟨by omega,?_⟩
  rw [ht,if_neg hn]
  obtain ⟨a,ha⟩:=List.length_eq_one_iff.1 q1
  have hA:=ar_right (List.all_eq_true.1 (right_parts h1).2.2.2.2.2.2.2 a (by rw [ha];simp)) ((renArs_map s.args h3).2 a (by rw [ha];simp))
  have hw:a.w = []:=by
   have q2:exprPos s.args=some 0:=Decidable.not_not.1 fun e=>hn (.inr e)
   rw [ha] at q2
   exact pos_zero q2
  have hr:=(hA.2.2.2.2.1 hw (dirs_db hd)).2.1
  have e1:(renArs s.args).1 = [(renAr a).1]:=by rw [(renArs_map s.args h3).1,ha];rfl
  have e2:arg0 (renS s)=(renAr a).1.e:=by
   unfold arg0 renS
   rw [e1];rfl
  rw [e2,e1]
  show _=((⟨(renA s.label).1,s.colon,sRST,[⟨[],[],false,false,e8R (renAr a).1.e⟩]⟩:St),0)
  rw [e8_eq hr]
open Go.RowKit
theorem rplain14_any (a:Ar) (v:Value) (w:World) (hs:SubAt w (· < w.heap.size) v a.e.sub) :
  Calls Tryz.prog 60 #[arV a v] w fun r w'=>r=.returned (.bool (plainA a))/\Below w.heap.size w w':=by
 obtain ⟨A,c,rfl,hc,hm⟩:=hs.form
 clear hs hc hm
 obtain ⟨aw,at1,ais,amem,ae⟩:=a
 unfold arV plainA
 simp only at *
 generalize ae.sub.length=sl at *
 obtain ⟨o,n,m,s⟩:=ae
 simp only [Ex.op,Ex.n,Ex.name] at *
 obtain ⟨b,hb⟩:∃ b,(aw == [])=b:=⟨_,rfl⟩
 rw [hb]
 cases b <;> cases ais <;> cases amem
 all_goals (
  go_enter Tryz.func60, Tryz.ntmps60
  go_wp2_with fail
  go_ret
  exact ⟨rfl,bra _ _⟩)
theorem fits14_any (x:List UInt8) (a:Ar) (v:Value) (w:World) (hs:SubAt w (· < w.heap.size) v a.e.sub) :
  Calls Tryz.prog 64 #[.string ⟨x.toArray⟩,arV a v] w fun r w'=>r=.returned (.tuple #[.bool (fitR x a).1,.int .i64 ((fitR x a).2:Nat)])/\Below w.heap.size w w':=by
 have HP:=LH (fun o=>rplain14_any a v (w.alloc o) (hs.keep (fun p hp=>World.cell?_alloc_lt _ _ _ hp) (fun g (hg:g<w.heap.size)=>by simp;omega)))
 have BB:=LH (fun o=>bra w o)
 obtain ⟨A,c,rfl,hc,hm⟩:=hs.form
 clear hs hc hm
 unfold arV at *
 generalize hpa:plainA a=pa at *
 obtain ⟨aw,at1,ais,amem,ae⟩:=a
 simp only at *
 generalize ae.sub.length=sl at *
 obtain ⟨o,n,m,s⟩:=ae
 simp only [Ex.op,Ex.n,Ex.name] at *
 have HF:Hid (fitR x ⟨aw,at1,ais,amem,.mk o n m s⟩=if x=sD8∨x = [110] then (pa,1) else if x=sD16∨x = [110,110] then (pa,2) else if x = [40,110,41] then (amem,1) else if x = [40,110,110,41] then (amem,2) else (aw == x,0)):=LH (by unfold fitR;rw [hpa])
 clear hpa
 generalize fitR x ⟨aw,at1,ais,amem,.mk o n m s⟩=res at *
 by_cases h1:x=sD8
 ·subst h1
  obtain rfl:res=(pa,1):=HF.out
  clear HF
  go_enter Tryz.func64, Tryz.ntmps64
  go_wp2_with fail
  refine (HP.out _).mono ?_
  rintro r w1 ⟨rfl,hb1⟩
  go_wp2_with fail
  refine bodyPost_ret (v:=.tuple #[.bool pa,.int .i64 1]) (by simp [results,Tryz.results64,go_sem]) rfl ⟨rfl,bthen (BB.out _) hb1⟩
 have e1:(x == sD8)=false:=str_ne h1
 by_cases h2:x = [110]
 ·subst h2
  obtain rfl:res=(pa,1):=HF.out
  clear HF h1
  go_enter Tryz.func64, Tryz.ntmps64
  go_wp2_with fail
  refine (HP.out _).mono ?_
  rintro r w1 ⟨rfl,hb1⟩
  go_wp2_with fail
  refine bodyPost_ret (v:=.tuple #[.bool pa,.int .i64 1]) (by simp [results,Tryz.results64,go_sem]) rfl ⟨rfl,bthen (BB.out _) hb1⟩
 have e2:(x == [110])=false:=str_ne h2
 have HF:=LH (HF.out.trans (if_neg (by rintro (h | h);exact h1 h;exact h2 h)))
 by_cases h3:x=sD16
 ·subst h3
  obtain rfl:res=(pa,2):=HF.out
  clear HF h1 h2
  go_enter Tryz.func64, Tryz.ntmps64
  go_wp2_with fail
  refine (HP.out _).mono ?_
  rintro r w1 ⟨rfl,hb1⟩
  go_wp2_with fail
  refine bodyPost_ret (v:=.tuple #[.bool pa,.int .i64 2]) (by simp [results,Tryz.results64,go_sem]) rfl ⟨rfl,bthen (BB.out _) hb1⟩
 have e3:(x == sD16)=false:=str_ne h3
 by_cases h4:x = [110,110]
 ·subst h4
  obtain rfl:res=(pa,2):=HF.out
  clear HF h1 h2 h3
  go_enter Tryz.func64, Tryz.ntmps64
  go_wp2_with fail
  refine (HP.out _).mono ?_
  rintro r w1 ⟨rfl,hb1⟩
  go_wp2_with fail
  refine bodyPost_ret (v:=.tuple #[.bool pa,.int .i64 2]) (by simp [results,Tryz.results64,go_sem]) rfl ⟨rfl,bthen (BB.out _) hb1⟩
 have e4:(x == [110,110])=false:=str_ne h4
 have HF:=LH (HF.out.trans (if_neg (by rintro (h | h);exact h3 h;exact h4 h)))
 by_cases h5:x = [40,110,41]
 ·subst h5
  obtain rfl:res=(amem,1):=HF.out
  clear HF h1 h2 h3 h4 HP
  go_enter Tryz.func64, Tryz.ntmps64
  go_wp2_with fail
  refine bodyPost_ret (v:=.tuple #[.bool amem,.int .i64 1]) (by simp [results,Tryz.results64,go_sem]) rfl ⟨rfl,BB.out _⟩
 have e5:(x == [40,110,41])=false:=str_ne h5
 by_cases h6:x = [40,110,110,41]
 ·subst h6
  obtain rfl:res=(amem,2):=HF.out
  clear HF h1 h2 h3 h4 h5 HP
  go_enter Tryz.func64, Tryz.ntmps64
  go_wp2_with fail
  refine bodyPost_ret (v:=.tuple #[.bool amem,.int .i64 2]) (by simp [results,Tryz.results64,go_sem]) rfl ⟨rfl,BB.out _⟩
 have e6:(x == [40,110,110,41])=false:=str_ne h6
 obtain rfl:res=(aw == x,0):=(HF.out.trans (if_neg h5)).trans (if_neg h6)
 obtain ⟨b,hb⟩:∃ b,(aw == x)=b:=⟨_,rfl⟩
 rw [hb]
 clear HF h1 h2 h3 h4 h5 h6 HP
 go_enter Tryz.func64, Tryz.ntmps64
 go_wp2_with fail
 refine bodyPost_ret (v:=.tuple #[.bool b,.int .i64 0]) (by simp [results,Tryz.results64,go_sem]) rfl ⟨rfl,BB.out _⟩
theorem fits_snoc (x:List UInt8) (a:Ar):∀ (xs:List (List UInt8)) (l:List Ar),xs.length=l.length->fitsR (xs++[x]) (l++[a])=(fitsR xs l && (fitR x a).1):=by
 intro xs
 induction xs with
 | nil=>intro l h;cases l with
  | nil=>simp [fitsR]
  | cons b l=>simp at h
 | cons y r ih=>intro l h;cases l with
  | nil=>simp at h
  | cons b l=>simp only [List.cons_append,fitsR,ih l (by simpa using h),Bool.and_assoc]
theorem kind_snoc (x:List UInt8) (a:Ar):∀ (xs:List (List UInt8)) (l:List Ar) (i:Nat) (e:Option (Nat × Nat)),xs.length=l.length->kindR (xs++[x]) (l++[a]) i e=if 0<(fitR x a).2 then some (i+xs.length,(fitR x a).2) else kindR xs l i e:=by
 intro xs
 induction xs with
 | nil=>intro l i e h;cases l with
  | nil=>simp [kindR]
  | cons b l=>simp at h
 | cons y r ih=>intro l i e h;cases l with
  | nil=>simp at h
  | cons b l=>
   simp only [List.cons_append,kindR,ih l _ _ (by simpa using h),List.length_cons]
   rw [show i+1+r.length=i+(r.length+1) by omega]
theorem fits_part (k:Nat):∀ (xs:List (List UInt8)) (l:List Ar),fitsR xs l=true->fitsR (xs.take k) (l.take k)=true:=by
 induction k with
 | zero=>intro xs l _;rfl
 | succ k ih=>intro xs l h;cases xs with
  | nil=>cases l with
   | nil=>rfl
   | cons b l=>cases h
  | cons y r=>cases l with
   | nil=>cases h
   | cons b l=>
    simp only [fitsR,Bool.and_eq_true] at h
    simp only [List.take_succ_cons,fitsR,Bool.and_eq_true]
    exact ⟨h.1,ih r l h.2⟩
def kE:Option (Nat × Nat)->Int
 | none=>-1
 | some (i,_)=>i
def kK:Option (Nat × Nat)->Int
 | none=>0
 | some (_,k)=>k
def formV:Option (Nat × Option (Nat × Nat))->Value
 | none=>.agg #[.bool false,.int .i64 0,.int .i64 0,.int .i64 0,.int .i64 0,.int .i64 0,.bool false]
 | some (op,o)=>.agg #[.bool true,.int .i64 op,.int .i64 0,.int .i64 0,.int .i64 (kE o),.int .i64 (kK o),.bool false]
theorem seven {w:World} {h:Nat} {c0 c1 c2 c3 c4 c5 c6:Value} {T:TypeId} (hh:w.heap[h]? = some (.cells #[c0,c1,c2,c3,c4,c5,c6] T (0,0))) :
  (w.cell? ⟨h,0,none⟩=some c0/\w.cell? ⟨h,1,none⟩=some c1/\w.cell? ⟨h,2,none⟩=some c2/\w.cell? ⟨h,3,none⟩=some c3/\w.cell? ⟨h,4,none⟩=some c4/\w.cell? ⟨h,5,none⟩=some c5/\w.cell? ⟨h,6,none⟩=some c6) /\
  (w.frozen? ⟨h,0,none⟩=false/\w.frozen? ⟨h,1,none⟩=false/\w.frozen? ⟨h,2,none⟩=false/\w.frozen? ⟨h,3,none⟩=false/\w.frozen? ⟨h,4,none⟩=false/\w.frozen? ⟨h,5,none⟩=false/\w.frozen? ⟨h,6,none⟩=false):=
 ⟨⟨coh hh,coh hh,coh hh,coh hh,coh hh,coh hh,coh hh⟩,foh hh,foh hh,foh hh,foh hh,foh hh,foh hh,foh hh⟩
theorem below_seven {w w':World} {B b:Nat} (h:Below B w w') (hb:B<=b) (u0 u1 u2 u3 u4 u5 u6:Value):Below B w (((((((w'.setCell ⟨b,0,none⟩ u0).setCell ⟨b,1,none⟩ u1).setCell ⟨b,2,none⟩ u2).setCell ⟨b,3,none⟩ u3).setCell ⟨b,4,none⟩ u4).setCell ⟨b,5,none⟩ u5).setCell ⟨b,6,none⟩ u6):=
 ((((((h.setCell hb u0).setCell hb u1).setCell hb u2).setCell hb u3).setCell hb u4).setCell hb u5).setCell hb u6
theorem of80_step {s:St} {k:Nat} (hk:k<256) (hno:∀ j,j<k->isOf s j=false) (h:isOf s k=true):of80P s=some (k,kindR (args80 k) s.args 0 none):=by
 unfold of80P of80R
 have:(List.range 256).find? (isOf s)=some k:=by
  rw [List.find?_range_eq_some]
  exact ⟨h,by simpa using hk,fun j hj=>by rw [hno j hj];rfl⟩
 rw [this];rfl
theorem of80_none' {s:St} (hno:∀ j,j<256->isOf s j=false):of80P s=none:=by
 unfold of80P of80R
 have:(List.range 256).find? (isOf s)=none:=by
  rw [List.find?_eq_none]
  intro j hj
  rw [hno j (List.mem_range.1 hj)]
  decide
 rw [this];rfl
theorem of80_any (s:St) (v:Value) (w:World) (hs:ArAt w (· < w.heap.size) v s.args) (hop:s.op≠sRST) (hm:s.args.length<=1000) :
  Calls Tryz.prog 25 #[.int .i64 0,stV s v] w fun r w'=>r=.returned (formV (of80P s))/\Below w.heap.size w w':=by
 obtain ⟨A,c,rfl,hc,_⟩:=hs.form
 have e0:(s.op == sRST)=false:=str_ne hop
 have HF:=LH (fun W=>forms6_any W)
 have OB:=LH (fun o2=>(Below.heap_alloc (w.alloc (.cells #[Sx s.label,.bool s.colon,Sx s.op,.slice A s.args.length c] 24)) o2 w.heap.size (by simp)).trans (heap_alloc_new w (.cells #[Sx s.label,.bool s.colon,Sx s.op,.slice A s.args.length c] 24)))
 have B2:=LH (fun o1 o2=>(bra w o1).alloc (by simp) o2)
 have HS0:=LH hs
 clear hs hop hc
 unfold stV
 go_enter Tryz.func25, Tryz.ntmps25
 go_wp2_with fail
 refine (HF.out _).mono ?_
 rintro r w3 ⟨v5,rfl,hW,hb3⟩
 obtain ⟨gf,rfl,hgf,hcf⟩:=hW
 rw [forms06_len] at *
 have B3:=LH (bthen (B2.out _ _) hb3)
 have O3:=LH ((hb3.block w.heap.size (by simp;omega)).trans (OB.out _))
 have N3:=LH ((hb3.block (w.heap.size+1) (by simp)).trans (heap_last (w:=w.alloc (.cells #[Sx s.label,.bool s.colon,Sx s.op,.slice A s.args.length c] 24)) (n:=w.heap.size+1) (by simp) (.cells #[Bf,.int .i64 0,.int .i64 0,.int .i64 0,.int .i64 0,.int .i64 0,Bf] 60)))
 have z3:w.heap.size+2<=w3.heap.size:=by have:=hb3.size;simpa using this
 have HCF:=LH hcf
 clear hb3 hcf HF OB
 go_wp2_with fail
 go_loopw [6] (fun i wr=>∃ k:Nat,k<=256/\i=.int .i64 k/\(∀ j,j<k->isOf s j=false)/\Below w3.heap.size w3 wr) (fun i _=>256 - (intOf i).toNat)
 case atStart=>exact ⟨0,by omega,rfl,fun j hj=>absurd hj (by omega),Below.refl _ _⟩
 case round=>
  obtain ⟨k,hk,rfl,hno,hb⟩:=hrel
  have HB:=LH hb
  have HNO:=LH hno
  have hz:=hb.size
  have O4:=LH ((hb.block w.heap.size (by omega)).trans O3.out)
  clear hb hno
  by_cases hlt:k<256
  ·have hcf:=HCF.out k (by rw [forms06_len];exact hlt)
   have hcw:=(HB.out.cell (p:=⟨gf,k,none⟩) hgf).trans hcf
   rw [show forms06[k]'(by rw [forms06_len];exact hlt)=forms06.getD k [] from (getD_at _ _ _).symm] at hcw
   have HW:=LH (formw6_any k hlt wr)
   have HIS:Hid (isOf s k=((words80 k).length == s.args.length+1 && name80 k == s.op && fitsR (args80 k) s.args)):=LH rfl
   have HST:=LH (of80_step hlt HNO.out)
   have HNX:Hid (isOf s k=false->∀ j,j<k+1->isOf s j=false):=LH (fun h j hj=>by
    rcases Nat.lt_succ_iff_lt_or_eq.1 hj with hj | rfl
    ·exact HNO.out j hj
    ·exact h)
   have HARG:Hid (args80 k=(words80 k).drop 1/\name80 k=(words80 k).headD []):=LH ⟨rfl,rfl⟩
   generalize forms06.getD k []=fm at *
   generalize args80 k=ags at *
   generalize name80 k=nm at *
   generalize words80 k=ws at *
   obtain ⟨a0,a1,a2,a3⟩:=(four O4.out).1
   clear hcf
   go_wp2_with fail
   refine HW.out.mono ?_
   rintro r w5 ⟨vw,rfl,hown,hb5⟩
   obtain ⟨wA,wc,rfl,hwc,hwm,hrow⟩:=own_slice hown (by omega)
   have HB5:=LH (bthen HB.out hb5)
   have O5:=LH ((hb5.block w.heap.size (by omega)).trans O4.out)
   have hz5:=hb5.size
   clear hb5 hown HW a0 a1 a2 a3
   obtain ⟨a0,a1,a2,a3⟩:=(four O5.out).1
   unfold maxLen at hwm
   by_cases hl:ws.length=s.args.length+1
   ·obtain ⟨x,r,hxr⟩:∃ x r,ws=x :: r:=by
     cases ws with
     | nil=>simp at hl
     | cons x r=>exact ⟨x,r,rfl⟩
    obtain ⟨g,rfl,hg1,hg2,_,hcell⟩:=hrow (by omega)
    have d0:w5.cell? ⟨g,0,none⟩=some (Sx x):=hcell 0 _ (by rw [hxr];rfl)
    have HCL:Hid (∀ i (hi:i<r.length),w5.cell? ⟨g,1+i,none⟩=some (Sx r[i])):=LH (fun i hi=>hcell (1+i) _ (by rw [hxr,Nat.add_comm];simp [strV,hi]))
    have e1:ags=r:=by rw [HARG.out.1,hxr];rfl
    have e2:nm=x:=by rw [HARG.out.2,hxr];rfl
    subst e1 e2
    have hrl:ags.length=s.args.length:=by rw [hxr] at hl;simpa using hl
    have HIS2:Hid (isOf s k=(nm == s.op && fitsR ags s.args)):=LH (by rw [HIS.out,beq_iff_eq.2 hl,Bool.true_and])
    clear HIS
    generalize ws.length=nw at *
    clear hrow hcell HARG hxr
    have q1:((nw:Int) != (s.args.length:Int)+1)=false:=by rw [bne_eq_false_iff_eq];omega
    by_cases hx:nm=s.op
    ·have q2:(nm == s.op)=true:=by simp [hx]
     have q3:1<=wc:=by omega
     have HIS3:Hid (isOf s k=fitsR ags s.args):=LH (by rw [HIS2.out,q2,Bool.true_and])
     clear HIS2 hx
     have HCL5:=HCL
     by_cases wc1:wc=1
     ·have hz0:s.args.length=0:=by omega
      have ha0:s.args = []:=List.length_eq_zero_iff.1 hz0
      have hg0:ags = []:=List.length_eq_zero_iff.1 (by omega)
      have HP:=LH (HST.out (HIS3.out.trans (by rw [ha0,hg0];rfl)))
      have HKQ:Hid (kindR ags s.args 0 none=none):=LH (by rw [ha0,hg0];rfl)
      have d1:decide ((0:Int)<(s.args.length:Int))=false:=by simp;omega
      have d2:¬ (0:Int)<(s.args.length:Int):=by omega
      have W1:=LH wc1
      clear wc1 hz0 ha0 hg0 HNX HST HIS3
      go_wp2_with fail
      go_quiet (fail)
      obtain ⟨w6,hw6⟩:∃ w6,w6=w5.drewN nq:=⟨_,rfl⟩
      rw [← hw6]
      have z6:w6.heap.size=w5.heap.size:=by rw [hw6];rfl
      have HB6:Hid (Below w3.heap.size w3 w6):=LH (by rw [hw6];exact HB5.out.trans ((below_dn (Below.refl _ _) _).mono HB5.out.size))
      have hz6:=HB6.out.size
      clear hw6 z6 HCL5 HCL O5 HB5 a0 a1 a2 a3 d0 HB O4 HNO HCF
      go_wp2_with fail
      have HNW:=LH (heap_alloc_new w6 (.cells #[Bt,.int .i64 k,.int .i64 0,.int .i64 0,.int .i64 (-1),.int .i64 0,Bf] 60))
      go_loopw [10] (fun i wi=>i=.int .i64 0/\wi.heap[w6.heap.size]? = some (.cells #[Bt,.int .i64 k,.int .i64 0,.int .i64 0,.int .i64 (-1),.int .i64 0,Bf] 60 (0,0))/\Below w6.heap.size w6 wi) (fun _ _=>0)
      case atStart=>exact ⟨rfl,HNW.out,bra _ _⟩
      case round=>
       obtain ⟨rfl,hbox,hbw⟩:=hrel
       have HBX:=LH hbox
       have hzi:=loh hbox
       have B7:=LH (HB6.out.trans (hbw.mono (by omega)))
       clear hbox hbw
       have N4:=LH ((B7.out.block (w.heap.size+1) (by omega)).trans N3.out)
       obtain ⟨⟨b0,b1,b2,b3,b4,b5,b6⟩,f0,f1,f2,f3,f4,f5,f6⟩:=seven HBX.out
       obtain ⟨⟨x0,x1,x2,x3,x4,x5,x6⟩,y0,y1,y2,y3,y4,y5,y6⟩:=seven N4.out
       have BE:=LH (below_seven (B3.out.trans (B7.out.mono (by omega))) (b:=w.heap.size+1) (by omega) (Bt) (.int .i64 k) (.int .i64 0) (.int .i64 0) (.int .i64 (-1)) (.int .i64 0) (Bf))
       clear HBX N4
       go_wp2_with fail
       refine bodyPost_ret (v:=.agg #[Bt,.int .i64 k,.int .i64 0,.int .i64 0,.int .i64 (-1),.int .i64 0,Bf]) (by simp [results,Tryz.results25,go_sem,x0,x1,x2,x3,x4,x5,x6]) rfl ⟨by rw [HP.out,HKQ.out];rfl,BE.out⟩
     ·go_wp2_with fail
      go_quiet (fail)
      obtain ⟨w6,hw6⟩:∃ w6,w6=w5.drewN nq:=⟨_,rfl⟩
      rw [← hw6]
      have z6:w6.heap.size=w5.heap.size:=by rw [hw6];rfl
      have h6:∀ p:Addr,w6.cell? p=w5.cell? p:=fun p=>by rw [hw6];rfl
      have HB6:Hid (Below w3.heap.size w3 w6):=LH (by rw [hw6];exact HB5.out.trans ((below_dn (Below.refl _ _) _).mono HB5.out.size))
      have O6:Hid (w6.heap[w.heap.size]? = some (.cells #[Sx s.label,.bool s.colon,Sx s.op,.slice A s.args.length c] 24 (0,0))):=LH (by rw [hw6];exact O5.out)
      have HCL6:Hid (∀ i (hi:i<ags.length),w6.cell? ⟨g,1+i,none⟩=some (Sx ags[i])):=LH (fun i hi=>(h6 _).trans (HCL5.out i hi))
      have hg6:g<w6.heap.size:=by omega
      have hz6:=HB6.out.size
      clear hw6 h6 z6 HCL5 HCL O5 HB5 a0 a1 a2 a3 d0 HB O4 HNO HCF
      obtain ⟨a0,a1,a2,a3⟩:=(four O6.out).1
      go_wp2_with fail
      have HNW:=LH (heap_alloc_new w6 (.cells #[Bt,.int .i64 k,.int .i64 0,.int .i64 0,.int .i64 (-1),.int .i64 0,Bf] 60))
      go_loopw [10] (fun i wi=>∃ (j:Nat) (b:Bool),j<=s.args.length/\i=.int .i64 j/\b=fitsR (ags.take j) (s.args.take j)/\wi.heap[w6.heap.size]? = some (.cells #[.bool b,.int .i64 k,.int .i64 0,.int .i64 0,.int .i64 (kE (kindR (ags.take j) (s.args.take j) 0 none)),.int .i64 (kK (kindR (ags.take j) (s.args.take j) 0 none)),Bf] 60 (0,0))/\Below w6.heap.size w6 wi) (fun i _=>s.args.length - (intOf i).toNat)
      case atStart=>exact ⟨0,true,by omega,rfl,rfl,HNW.out,bra _ _⟩
      case round=>
       obtain ⟨j,b,hj,rfl,hb,hbox,hbw⟩:=hrel
       have HBX:=LH hbox
       have HBW:=LH hbw
       have hzi:=loh hbox
       have O7:=LH ((hbw.block w.heap.size (by omega)).trans O6.out)
       have B7:=LH (HB6.out.trans (hbw.mono (by omega)))
       clear hbox hbw a0 a1 a2 a3
       obtain ⟨a0,a1,a2,a3⟩:=(four O7.out).1
       by_cases hlt:j<s.args.length
       ·cases b with
        | true=>
         obtain ⟨ga,oa,vk,hA,hgl,m0,m1,m2,m3,m4,m5,m6,m7,hsub⟩:=(HS0.out.at (B3.out.trans (B7.out.mono (by omega))) (B3.out.trans (B7.out.mono (by omega))).size).get j hlt
         subst hA
         obtain ⟨sA,sc,rfl,_,_⟩:=hsub.form
         have hja:j<ags.length:=by omega
         have dj:=(HBW.out.cell (p:=⟨g,1+j,none⟩) hg6).trans (HCL6.out j hja)
         have HC:=LH (fits14_any ags[j] s.args[j] _ wr hsub)
         have HT1:Hid (fitsR (ags.take (j+1)) (s.args.take (j+1))=(fitR ags[j] s.args[j]).1):=LH (by
          rw [List.take_succ_eq_append_getElem hja,List.take_succ_eq_append_getElem hlt,fits_snoc _ _ _ _ (by simp;omega),← hb,Bool.true_and])
         have HT2:Hid (kindR (ags.take (j+1)) (s.args.take (j+1)) 0 none=if 0<(fitR ags[j] s.args[j]).2 then some (j,(fitR ags[j] s.args[j]).2) else kindR (ags.take j) (s.args.take j) 0 none):=LH (by
          rw [List.take_succ_eq_append_getElem hja,List.take_succ_eq_append_getElem hlt,kind_snoc _ _ _ _ _ _ (by simp;omega)]
          simp [List.length_take,Nat.min_eq_left (Nat.le_of_lt hja)])
         have HSB:=LH hsub
         have CH:=LH (fun d' os=>Calls.regrown_of (d:=d') (os:=os) (fits14_any ags[j] s.args[j] _ (Go.Sort.grow (redrawn wr d') os) (HSB.out.at (below_regrown wr d' os) (below_regrown wr d' os).size)))
         unfold arV at CH
         clear HC HSB
         generalize fitR ags[j] s.args[j]=fr at *
         obtain ⟨fb,fk⟩:=fr
         simp only at HT1 HT2 CH
         generalize kindR (ags.take j) (s.args.take j) 0 none=kq at *
         clear hsub hb
         generalize ags[j]=xj at *
         generalize s.args[j]=aj at *
         have j0:=cell_regrown dj
         have j1:=cell_regrown a3
         have k0:=cell_regrown m0
         have k1:=cell_regrown m1
         have k2:=cell_regrown m2
         have k3:=cell_regrown m3
         have k4:=cell_regrown m4
         have k5:=cell_regrown m5
         have k6:=cell_regrown m6
         have k7:=cell_regrown m7
         have b0:=(seven HBX.out).1.1
         clear dj a0 a1 a2 m0 m1 m2 m3 m4 m5 m6 m7
         go_wp2_with fail
         refine wp_region_quiet_below (by kernel_rfl) (by kernel_rfl) ?_
         repeat (quiet_step (first | (go_at_call 64;exact CH.out _ _)))
         refine wpQuiet_nil ?_
         intro _ hw'
         obtain ⟨⟨dq,osq⟩,hw''⟩:=hw'
         subst hw''
         have BG:=LH (below_regrown wr dq osq)
         generalize Go.Sort.grow (redrawn wr dq) osq=wg at *
         have HB9:=LH ((BG.out.block w6.heap.size hzi).trans HBX.out)
         have BW9:=LH (HBW.out.trans (BG.out.mono HBW.out.size))
         clear j0 j1 k0 k1 k2 k3 k4 k5 k6 k7 CH HBX BG b0
         obtain ⟨⟨b0,b1,b2,b3,b4,b5,b6⟩,f0,f1,f2,f3,f4,f5,f6⟩:=seven HB9.out
         have HP1:=LH (heap_set (i:=0) (.bool fb) HB9.out)
         by_cases hfk:fk=0
         ·subst hfk
          have e9:decide ((0:Int) > 0)=false:=by simp
          go_wp2_with fail
          go_roundw
          case rel=>
           refine ⟨j+1,fb,by omega,by go_num,HT1.out.symm,?_,BW9.out.setCell (Nat.le_refl _) _⟩
           rw [HT2.out,if_neg (by simp)]
           exact HP1.out
          case measure=>simp [intOf];omega
         ·have e9:decide ((0:Int)<(fk:Int))=true:=by simp;omega
          have e8:(0:Int)<(fk:Int):=by omega
          have HP2:=LH (heap_set (i:=5) (.int .i64 fk) (heap_set (i:=4) (.int .i64 j) HP1.out))
          go_wp2_with fail
          go_roundw
          case rel=>
           refine ⟨j+1,fb,by omega,by go_num,HT1.out.symm,?_,((BW9.out.setCell (Nat.le_refl _) _).setCell (Nat.le_refl _) _).setCell (Nat.le_refl _) _⟩
           rw [HT2.out,if_pos (by omega)]
           exact HP2.out
          case measure=>simp [intOf];omega
        | false=>
         have HN2:=LH (HNX.out (by
          rw [HIS3.out,Bool.eq_false_iff]
          intro h
          rw [fits_part j _ _ h] at hb
          cases hb))
         generalize kE (kindR (ags.take j) (s.args.take j) 0 none)=ke at *
         generalize kK (kindR (ags.take j) (s.args.take j) 0 none)=kk at *
         obtain ⟨⟨b0,b1,b2,b3,b4,b5,b6⟩,f0,f1,f2,f3,f4,f5,f6⟩:=seven HBX.out
         clear HNX HST HIS3 hb
         go_wp2_with fail
         go_roundw
         case rel=>exact ⟨k+1,by omega,by go_num,HN2.out,B7.out⟩
         case measure=>simp [intOf];omega
       ·obtain rfl:j=s.args.length:=by omega
        rw [List.take_length,List.take_of_length_le (by omega)] at hb
        rw [List.take_length,List.take_of_length_le (by omega)] at HBX
        have d1:decide ((s.args.length:Int)<(s.args.length:Int))=false:=by simp
        clear hlt
        cases b with
        | true=>
         have HP:=LH (HST.out (HIS3.out.trans hb.symm))
         generalize kindR ags s.args 0 none=kq at *
         have N4:=LH ((B7.out.block (w.heap.size+1) (by omega)).trans N3.out)
         obtain ⟨⟨b0,b1,b2,b3,b4,b5,b6⟩,f0,f1,f2,f3,f4,f5,f6⟩:=seven HBX.out
         obtain ⟨⟨x0,x1,x2,x3,x4,x5,x6⟩,y0,y1,y2,y3,y4,y5,y6⟩:=seven N4.out
         have BE:=LH (below_seven (B3.out.trans (B7.out.mono (by omega))) (b:=w.heap.size+1) (by omega) (Bt) (.int .i64 k) (.int .i64 0) (.int .i64 0) (.int .i64 (kE kq)) (.int .i64 (kK kq)) (Bf))
         clear HNX HST HIS3 hb HBX N4
         generalize hke:kE kq=ke at *
         generalize hkk:kK kq=kk at *
         go_wp2_with fail
         refine bodyPost_ret (v:=.agg #[Bt,.int .i64 k,.int .i64 0,.int .i64 0,.int .i64 ke,.int .i64 kk,Bf]) (by simp [results,Tryz.results25,go_sem,x0,x1,x2,x3,x4,x5,x6]) rfl ⟨by rw [HP.out,formV,hke,hkk],BE.out⟩
        | false=>
         have HN2:=LH (HNX.out (HIS3.out.trans hb.symm))
         generalize kE (kindR ags s.args 0 none)=ke at *
         generalize kK (kindR ags s.args 0 none)=kk at *
         obtain ⟨⟨b0,b1,b2,b3,b4,b5,b6⟩,f0,f1,f2,f3,f4,f5,f6⟩:=seven HBX.out
         clear HNX HST HIS3 hb
         go_wp2_with fail
         go_roundw
         case rel=>exact ⟨k+1,by omega,by go_num,HN2.out,B7.out⟩
         case measure=>simp [intOf];omega
    ·have q2:(nm == s.op)=false:=str_ne hx
     have HN2:=LH (HNX.out (by rw [HIS2.out,str_ne hx];rfl))
     clear HNX HST HIS2 hx HCL
     go_wp2_with fail
     go_quiet (fail)
     go_wp2_with fail
     go_roundw
     case rel=>exact ⟨k+1,by omega,by go_num,HN2.out,HB5.out.trans ((below_dn (Below.refl _ _) _).mono HB5.out.size)⟩
     case measure=>simp [intOf];omega
   ·have q1:((ws.length:Int) != (s.args.length:Int)+1)=true:=by rw [bne_iff_ne];omega
    have HN2:=LH (HNX.out (by rw [HIS.out];simp [hl]))
    clear HNX HST HIS hl hrow
    go_wp2_with fail
    go_quiet (fail)
    go_wp2_with fail
    go_roundw
    case rel=>exact ⟨k+1,by omega,by go_num,HN2.out,HB5.out.trans ((below_dn (Below.refl _ _) _).mono HB5.out.size)⟩
    case measure=>simp [intOf];omega
  ·obtain rfl:k=256:=by omega
   have HP:=LH (of80_none' HNO.out)
   have N4:=LH ((HB.out.block (w.heap.size+1) (by omega)).trans N3.out)
   obtain ⟨⟨b0,b1,b2,b3,b4,b5,b6⟩,c0,c1,c2,c3,c4,c5,c6⟩:=seven N4.out
   have BE:=LH (below_seven (B3.out.trans (HB.out.mono (by omega))) (b:=w.heap.size+1) (by omega) (Bf) (.int .i64 0) (.int .i64 0) (.int .i64 0) (.int .i64 0) (.int .i64 0) (Bf))
   clear HNO HCF HB O4
   go_wp2_with fail
   refine bodyPost_ret (v:=.agg #[Bf,.int .i64 0,.int .i64 0,.int .i64 0,.int .i64 0,.int .i64 0,Bf]) (by simp [results,Tryz.results25,go_sem,b0,b1,b2,b3,b4,b5,b6]) rfl ⟨by rw [HP.out];rfl,BE.out⟩
theorem of80_rst (s:St) (v:Value) (w:World) (hs:ArAt w (· < w.heap.size) v s.args) (hop:s.op=sRST) :
  Calls Tryz.prog 25 #[.int .i64 0,stV s v] w fun r w'=>r=.returned (.agg #[.bool (rstB s),.int .i64 199,.int .i64 0,.int .i64 0,.int .i64 0,.int .i64 3,.bool false])/\Below w.heap.size w w':=by
 have HS:=LH hs
 obtain ⟨A,c,rfl,hc,_⟩:=hs.form
 obtain ⟨lab,colon,op,args⟩:=s
 simp only at hop HS hc
 subst hop
 have HRB:Hid (rstB ⟨lab,colon,sRST,args⟩=(decide (args.length=1) && plainA (args.getD 0 ar0))):=LH rfl
 generalize rstB ⟨lab,colon,sRST,args⟩=rb at *
 unfold stV
 clear hs
 by_cases h1:args.length=1
 ·obtain ⟨g,o,vk,hA,hgl,m0,m1,m2,m3,m4,m5,m6,m7,hsub⟩:=HS.out.get 0 (by omega)
  subst hA
  obtain ⟨sA,sc,rfl,_,_⟩:=hsub.form
  rw [show o+0 * 8=o by omega] at m0 m1 m2 m3 m4 m5 m6 m7
  have HC:=LH (fun W (hW:Below w.heap.size w W)=>rplain14_any args[0] (.slice sA args[0].e.sub.length sc) W (hsub.at hW hW.size))
  have hrb:rb=plainA args[0]:=by
   rw [HRB.out,decide_eq_true h1,List.getD_eq_getElem?_getD,List.getElem?_eq_getElem (by omega)];rfl
  rw [← hrb] at HC
  unfold arV at HC
  generalize args[0]=a at *
  rw [h1]
  clear hrb HRB h1 hsub HS
  go_enter Tryz.func25, Tryz.ntmps25
  go_wp2_with fail
  refine (HC.out _ ((bra w _).alloc (by simp) _)).mono ?_
  rintro r w1 ⟨rfl,hb1⟩
  have B1:=LH (bthen ((bra w (.cells #[Sx lab,.bool colon,Sx sRST,.slice (some ⟨g,o,none⟩) 1 c] 24)).alloc (by simp) (.cells #[Bf,.int .i64 0,.int .i64 0,.int .i64 0,.int .i64 0,.int .i64 0,Bf] 60)) hb1)
  have O1:=LH ((hb1.block (w.heap.size+1) (by simp)).trans (heap_last (w:=w.alloc (.cells #[Sx lab,.bool colon,Sx sRST,.slice (some ⟨g,o,none⟩) 1 c] 24)) (n:=w.heap.size+1) (by simp) (.cells #[Bf,.int .i64 0,.int .i64 0,.int .i64 0,.int .i64 0,.int .i64 0,Bf] 60)))
  obtain ⟨⟨x0,x1,x2,x3,x4,x5,x6⟩,y0,y1,y2,y3,y4,y5,y6⟩:=seven O1.out
  clear hb1 HC
  go_wp2_with fail
  refine bodyPost_ret (v:=.agg #[.bool rb,.int .i64 199,.int .i64 0,.int .i64 0,.int .i64 0,.int .i64 3,Bf]) (by simp [results,Tryz.results25,go_sem,x0,x1,x2,x3,x4,x5,x6]) rfl ⟨rfl,below_seven B1.out (by simp) _ _ _ _ _ _ _⟩
 ·have e1:((args.length:Int) == 1)=false:=by rw [beq_eq_false_iff_ne];omega
  have hrb:rb=false:=by rw [HRB.out,decide_eq_false h1];rfl
  subst hrb
  clear HRB h1
  have O1:=LH (heap_last (w:=w.alloc (.cells #[Sx lab,.bool colon,Sx sRST,.slice A args.length c] 24)) (n:=w.heap.size+1) (by simp) (.cells #[Bf,.int .i64 199,.int .i64 0,.int .i64 0,.int .i64 0,.int .i64 3,Bf] 60))
  obtain ⟨⟨x0,x1,x2,x3,x4,x5,x6⟩,_⟩:=seven O1.out
  go_enter Tryz.func25, Tryz.ntmps25
  go_wp2_with fail
  refine bodyPost_ret (v:=.agg #[Bf,.int .i64 199,.int .i64 0,.int .i64 0,.int .i64 0,.int .i64 3,Bf]) (by simp [results,Tryz.results25,go_sem,x0,x1,x2,x3,x4,x5,x6]) rfl ⟨rfl,(bra w _).alloc (by simp) _⟩
theorem rdir_any (op:List UInt8) (w:World):Calls Tryz.prog 24 #[.string ⟨op.toArray⟩] w fun e w'=>e=.returned (.bool (decide (op∈dirOps)))/\Below w.heap.size w w':=by
 have HT:Hid (∀ k (hk:k<10),dirOps.getD k []=op->decide (op∈dirOps)=true):=LH (fun k hk h=>by
  rw [decide_eq_true_iff,← h,List.getD_eq_getElem?_getD,List.getElem?_eq_getElem (show k<dirOps.length from hk)]
  exact List.getElem_mem _)
 have HN:Hid ((∀ j,j<10->dirOps.getD j []≠op)->decide (op∈dirOps)=false):=LH (fun h=>by
  rw [decide_eq_false_iff_not]
  intro hm
  obtain ⟨j,hj,e⟩:=List.getElem_of_mem hm
  exact h j hj (by rw [List.getD_eq_getElem?_getD,List.getElem?_eq_getElem hj];exact e))
 obtain ⟨o,ho⟩:∃ o,o=Obj.cells #[Sn,.string ⟨#[79,82,71]⟩,.string ⟨#[69,81,85]⟩,.string ⟨#[83,69,84]⟩,.string ⟨#[68,66]⟩,.string ⟨#[68,87]⟩,.string ⟨#[68,83]⟩,.string ⟨#[73,70]⟩,.string ⟨#[69,78,68,73,70]⟩,.string ⟨#[69,78,68]⟩] 9 (0,0):=⟨_,rfl⟩
 have DC:Hid (∀ j,j<10->(w.alloc o).cell? ⟨w.heap.size,j,none⟩=some (.string ⟨(dirOps.getD j []).toArray⟩)):=LH (fun j hj=>by
  rw [List.getD_eq_getElem?_getD,List.getElem?_eq_getElem (show j<dirOps.length from hj),ho]
  exact dir_cells w j hj)
 have B0:=LH (bra w o)
 generalize decide (op∈dirOps)=db at *
 go_enter Tryz.func24, Tryz.ntmps24
 go_wp2_with fail
 simp only [← ho]
 clear ho
 go_loopw [4] (fun i wr=>∃ k:Nat,k<=10/\i=.int .i64 k/\(∀ j,j<k->dirOps.getD j []≠op)/\wr=w.alloc o) (fun i _=>10 - (intOf i).toNat)
 case atStart=>exact ⟨0,by omega,rfl,fun j hj=>absurd hj (by omega),rfl⟩
 case round=>
  obtain ⟨k,hk,rfl,hno,rfl⟩:=hrel
  have HNO:=LH hno
  clear hno
  by_cases hlt:k<10
  ·have ck:=DC.out k hlt
   have HTk:=LH (HT.out k hlt)
   have HNk:Hid (dirOps.getD k []≠op->∀ j,j<k+1->dirOps.getD j []≠op):=LH (fun h j hj=>by
    by_cases e:j=k
    ·subst e;exact h
    ·exact HNO.out j (by omega))
   generalize dirOps.getD k []=y at *
   by_cases hy:y=op
   ·have e1:(y == op)=true:=by simp [hy]
    have HX:=LH (HTk.out hy)
    clear hy HNk HTk HNO
    go_wp2_with fail
    go_ret
    exact ⟨by rw [HX.out];rfl,B0.out⟩
   ·have e1:=str_ne hy
    have HX:=LH (HNk.out hy)
    clear hy HNk HTk HNO
    go_wp2_with fail
    go_roundw
    case rel=>exact ⟨k+1,by omega,by go_num,HX.out,trivial⟩
    case measure=>simp [intOf];omega
  ·obtain rfl:k=10:=by omega
   have HX:=LH (HN.out HNO.out)
   clear hlt HNO
   go_wp2_with fail
   go_ret
   exact ⟨by rw [HX.out];rfl,B0.out⟩
theorem i64_and16 (n:Int):bits .and .i64 n 65535=n % 65536:=by
 have h15:(BitVec.ofInt 64 65535).toNat=2 ^ 16 - 1:=by decide
 have key:(BitVec.ofInt 64 n &&& BitVec.ofInt 64 65535).toNat=(n % ((2 ^ 64:Nat):Int)).toNat % 2 ^ 16:=by
  rw [BitVec.toNat_and,BitVec.toNat_ofInt,h15,Nat.and_two_pow_sub_one_eq_mod]
 show IntKind.i64.wrap ((BitVec.ofInt 64 n &&& BitVec.ofInt 64 65535).toNat:Nat)=n % 65536
 rw [key,IntKind.wrap_i64]
 omega
theorem reight_any (S:Nat->Prop) (e:Ex) (v:Value) (w:World) (hok:okE e) (hS:∀ g,S g->g<w.heap.size) (hs:SubAt w S v e.sub) :
  Calls Tryz.prog 26 #[exV e v] w fun r w'=>∃ u,r=.returned (exV (e8R e) u)/\SubAt w' (fun g=>g<w'.heap.size/\(S g∨w.heap.size<=g)) u (e8R e).sub/\Below w.heap.size w w':=by
 have HOK:=LH hok
 obtain ⟨A,c,rfl,_,_⟩:=hs.form
 have HS:=LH hs
 unfold exV
 clear hs hok
 by_cases ho:e.op = [35]
 ·have e0:(e.op == [35])=true:=by simp [ho]
  have HE:Hid (e8R e=.mk [35] (e.n * 8 % 65536) [] []):=LH (by unfold e8R;rw [if_pos ho])
  have hn:e.n<=65535:=HOK.out.1
  obtain ⟨q,hq⟩:∃ q:Nat,q=e.n * 8 % 65536:=⟨_,rfl⟩
  have e1:wrap64 (e.n:Int)=(e.n:Int):=IntWalk.wrap64_in _ (by omega)
  have e2:wrap64 ((e.n:Int) * 8)=(e.n:Int) * 8:=IntWalk.wrap64_in _ (by omega)
  have e3:bits .and .i64 ((e.n:Int) * 8) 65535=(q:Int):=by rw [i64_and16];omega
  have e4:IntKind.u16.wrap (q:Int)=(q:Int):=by rw [wrap16];omega
  rw [← hq] at HE
  have O1:Hid (((w.alloc (.cells #[Sx e.op,.int .u16 e.n,Sx e.name,.slice A e.sub.length c] 34)).alloc (.cells #[.string ⟨#[35]⟩,.int .u16 q,Sn,Zs] 34)).heap[w.heap.size+1]? = some (.cells #[.string ⟨#[35]⟩,.int .u16 q,Sn,Zs] 34 (0,0))):=LH (heap_last (by simp) _)
  obtain ⟨⟨z0,z1,z2,z3⟩,_⟩:=four O1.out
  have B2:=LH ((bra w (.cells #[Sx e.op,.int .u16 e.n,Sx e.name,.slice A e.sub.length c] 34)).alloc (by simp) (.cells #[.string ⟨#[35]⟩,.int .u16 q,Sn,Zs] 34))
  clear ho hq hn
  go_enter Tryz.func26, Tryz.ntmps26
  go_wp2_with fail
  refine bodyPost_ret (v:=.agg #[.string ⟨#[35]⟩,.int .u16 q,Sn,Zs]) (by simp [results,Tryz.results26,go_sem,z0,z1,z2,z3]) rfl ?_
  rw [HE.out]
  exact ⟨Zs,rfl,SubAt.nil _ _,B2.out⟩
 ·have e0:=str_ne ho
  have HE:Hid (e8R e=.mk [42] 0 [] [e,.mk [35] 8 [] []]):=LH (by unfold e8R;rw [if_neg ho])
  clear ho
  obtain ⟨o0,ho0⟩:∃ o,o=Obj.cells #[Sx e.op,.int .u16 e.n,Sx e.name,.slice A e.sub.length c] 34 (0,0):=⟨_,rfl⟩
  have O1:Hid ((((w.alloc o0).alloc (.cells #[.string ⟨#[42]⟩,.int .u16 0,Sn,.slice (some ⟨w.heap.size+1+1,0,none⟩) 2 2] 34)).alloc (.cells #[Sx e.op,.int .u16 e.n,Sx e.name,.slice A e.sub.length c,.string ⟨#[35]⟩,.int .u16 8,Sn,Zs] 34)).heap[w.heap.size+1]? = some (.cells #[.string ⟨#[42]⟩,.int .u16 0,Sn,.slice (some ⟨w.heap.size+1+1,0,none⟩) 2 2] 34 (0,0))):=LH ((Below.heap_alloc _ _ _ (by simp)).trans (heap_last (by simp) _))
  obtain ⟨⟨z0,z1,z2,z3⟩,_⟩:=four O1.out
  have B3:=LH (((bra w o0).alloc (by simp) (.cells #[.string ⟨#[42]⟩,.int .u16 0,Sn,.slice (some ⟨w.heap.size+1+1,0,none⟩) 2 2] 34)).alloc (by simp;omega) (.cells #[Sx e.op,.int .u16 e.n,Sx e.name,.slice A e.sub.length c,.string ⟨#[35]⟩,.int .u16 8,Sn,Zs] 34))
  have H2:=LH (SubAt.two (w:=(w.alloc o0).alloc (.cells #[.string ⟨#[42]⟩,.int .u16 0,Sn,.slice (some ⟨w.heap.size+1+1,0,none⟩) 2 2] 34)) (S:=S) (S':=fun g=>g<w.heap.size+3/\(S g∨w.heap.size<=g)) (v:=.slice A e.sub.length c) (v':=Zs) (e:=e) (e':=.mk [35] 8 [] []) (HS.out.keep (fun p hp=>(World.cell?_alloc_lt _ _ _ (by have:=hS _ hp;simp;omega)).trans (World.cell?_alloc_lt _ _ _ (hS _ hp))) (fun g hg=>hg)) (SubAt.nil _ _) HOK.out ⟨by decide,by simp [Ex.op,maxLen],by simp [Ex.name,maxLen]⟩ (fun g hg=>by have:=hS g hg;simp;omega) (fun g hg=>⟨by have:=hS g hg;omega,.inl hg⟩) (w.heap.size+1+1) (by simp) ⟨by omega,.inr (by omega)⟩ 34)
  go_enter Tryz.func26, Tryz.ntmps26
  go_wp2_with fail
  rw [← ho0]
  refine bodyPost_ret (v:=.agg #[.string ⟨#[42]⟩,.int .u16 0,Sn,.slice (some ⟨w.heap.size+1+1,0,none⟩) 2 2]) (by simp [results,Tryz.results26,go_sem,z0,z1,z2,z3]) rfl ?_
  rw [HE.out]
  exact ⟨.slice (some ⟨w.heap.size+1+1,0,none⟩) 2 2,rfl,H2.out.more (fun g hg=>⟨by have:=hg.1;simp;omega,hg.2⟩),B3.out⟩
end Go.Proofs.YtijgppokofganaaGreatDoor
