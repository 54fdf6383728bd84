/- Xr. -/
import Derived.Test.YtcbkglpanchhiaaGreatDoorXa
import Derived.Test.YtcbkglpanchhiaaGreatDoorLaw5a
import Derived.Test.YtcbkglpanchhiaaGreatDoorKo
import Derived.Test.YtcbkglpanchhiaaGreatDoorKn
import Derived.StillTailTactics
import Derived.Test.YtcbkglpanchhiaaGreatDoorXp
import Derived.Test.YtcbkglpanchhiaaGreatDoorKf
import Derived.Test.YtcbkglpanchhiaaGreatDoorXo
import Derived.Test.YtcbkglpanchhiaaGreatDoorRw10
namespace Go.Proofs.YtcbkglpanchhiaaGreatDoor
set_option maxHeartbeats 4000000
theorem right_deep (e:Ex):∀ d,rightE e d=true → deepE e ≤ d:=by
 induction e using Ex.ind with
 | h o n m s ih=>
  intro d h
  have hf:=rightE.form h
  cases hf with
  | num=>simp [deepE,deepL]
  | name=>simp [deepE,deepL]
  | here=>simp [deepE,deepL]
  | neg a d hA=>have:=ih a (by simp) d hA;simp [deepE,deepL];omega
  | not a d hA=>have:=ih a (by simp) d hA;simp [deepE,deepL];omega
  | two o r a b d ho h1 h2=>have:=ih a (by simp) d h1;have:=ih b (by simp) d h2;simp [deepE,deepL];omega
open Go.RowKit
theorem refArg_eq (a:Ar) (v u:Value) (w:World) (hs:SubAt w (· < w.heap.size) v a.e.sub) (ht:SubAt w (· < w.heap.size) u a.e.sub) :
  Calls Tryz.prog 35 #[arV a v,arV a u] w fun e w'=>e=.returned (.bool true)∧Below w.heap.size w w':=by
 have HQ:=LH (fun W (hW:Below w.heap.size w W)=>refSame_any a.e a.e v u W (hs.at hW hW.size) (ht.at hW hW.size))
 rw [(sameE_iff _ _).2 rfl] at HQ
 obtain ⟨A,c,rfl,hc,hm⟩:=hs.form
 obtain ⟨A',c',rfl,hc',hm'⟩:=ht.form
 clear hs ht hc hm hc' hm'
 obtain ⟨aw,at1,ais,amem,ae⟩:=a
 unfold arV
 simp only at *
 generalize ae.sub.length=sl at *
 obtain ⟨o,n,m,s⟩:=ae
 simp only [Ex.op,Ex.n,Ex.name] at *
 cases ais <;> cases amem
 all_goals (
  go_enter Tryz.func35, Tryz.ntmps35
  go_wp2_with fail
  refine (HQ.out _ (((Below.refl _ _).alloc (Nat.le_refl _) _).alloc (by simp) _)).mono ?_
  rintro e w1 ⟨rfl,hb1⟩
  go_wp2_with fail
  go_ret
  exact ⟨rfl,(((Below.refl _ _).alloc (Nat.le_refl _) _).alloc (by simp) _).trans (hb1.mono (by simp;omega))⟩)
set_option maxRecDepth 100000 in
theorem refSame12_eq (s:St) (v u:Value) (w:World) (hs:ArAt w (· < w.heap.size) v s.args) (ht:ArAt w (· < w.heap.size) u s.args) :
  Calls Tryz.prog 10 #[stV s v,stV s u] w fun e w'=>e=.returned (.bool true)∧Below w.heap.size w w':=by
 obtain ⟨A,c,rfl,hc,hm⟩:=hs.form
 obtain ⟨A',c',rfl,hc',hm'⟩:=ht.form
 unfold maxLen at hm hm'
 have HS:=LH hs
 have HT:=LH ht
 clear hs ht
 obtain ⟨lab,colon,op,l⟩:=s
 unfold stV
 simp only at *
 have n1:(lab != lab)=false:=by simp
 have n2:(op != op)=false:=by simp
 have n3:((l.length:Int) != (l.length:Int))=false:=by simp
 have n4:(colon != colon)=false:=by simp
 go_enter Tryz.func10, Tryz.ntmps10
 go_wp2_with fail
 go_loopw [5] (fun i wr=>∃ k:Nat,k ≤ l.length∧i=.int .i64 k∧Below (w.heap.size + 2) ((w.alloc (.cells #[.string ⟨lab.toArray⟩,.bool colon,.string ⟨op.toArray⟩,.slice A l.length c] 24)).alloc (.cells #[.string ⟨lab.toArray⟩,.bool colon,.string ⟨op.toArray⟩,.slice A' l.length c'] 24)) wr) (fun i _=>l.length - (intOf i).toNat)
 case atStart=>exact ⟨0,Nat.zero_le _,rfl,Below.refl _ _⟩
 case round=>
  obtain ⟨k,hk,rfl,hb⟩:=hrel
  have b1:=box1_at hb 3 (.slice A l.length c) rfl
  have b2:=box2_at hb 3 (.slice A' l.length c') rfl
  have hz:w.heap.size + 2 ≤ wr.heap.size:=by have:=hb.size;simp at this;omega
  have hbw:Below w.heap.size w wr:=(((Below.refl _ _).alloc (Nat.le_refl _) _).alloc (by simp) _).trans (hb.mono (by omega))
  have HB:=LH hb
  have HBW:=LH hbw
  clear hb
  by_cases hlt:k < l.length
  ·obtain ⟨g,o,v1,hA,hgl,c0,c1,c2,c3,c4,c5,c6,c7,hs1⟩:=(HS.out.at hbw hbw.size).get k hlt
   subst hA
   obtain ⟨sA,sc,rfl,_,_⟩:=hs1.form
   obtain ⟨g',o',v2,hA',hgl',d0,d1,d2,d3,d4,d5,d6,d7,hs2⟩:=(HT.out.at hbw hbw.size).get k hlt
   subst hA'
   obtain ⟨tA,tc,rfl,_,_⟩:=hs2.form
   have HC:=LH (refArg_eq l[k] _ _ wr.drew (hs1.keep (w':=wr.drew) (fun p _=>rfl) (fun _ h=>h)) (hs2.keep (w':=wr.drew) (fun p _=>rfl) (fun _ h=>h)))
   generalize l[k]=x at *
   clear hs1 hs2 hbw
   go_wp2_with fail
   go_still_tail 10,(by kernel_rfl)
   change wpList _ _ _ _ _ wr.drew
   go_wp2_with fail
   refine HC.out.mono ?_
   rintro e0 w5 ⟨rfl,hb5⟩
   go_wp2_with fail
   go_roundw
   case rel=>exact ⟨k + 1,by omega,by go_num,HB.out.drew.trans (hb5.mono hz)⟩
   case measure=>simp [intOf];omega
  ·obtain rfl:k=l.length:=by omega
   clear hbw
   go_wp2_with fail
   go_ret
   exact ⟨rfl,HBW.out⟩
def names8:List (List UInt8):=((List.range 256).filter fun op=>size80 op == 2).map name80
def names16:List (List UInt8):=((List.range 256).filter fun op=>size80 op == 3).map name80
def okW (op:Nat):Bool:=
  (args80 op).dropLast.all (fun x=>x != sD8 && x != sD16) && (args80 op).all (fun x=>x != [] && x != [110] && x != [110,110] && x != [40,110,41] && x != [40,110,110,41]) &&
  (if name80 op ∈ names8 then size80 op == 2 && (args80 op).getLast? == some sD8 else if name80 op ∈ names16 then size80 op == 3 && (args80 op).getLast? == some sD16
   else (args80 op).getLast? != some sD8 && (args80 op).getLast? != some sD16 && decide (size80 op ≤ 1)) && ((words80 op == []) || (words80 op == name80 op :: args80 op && size80 op != 0))
theorem okW_all:∀ k:Fin 256,okW k.val=true:=by decide +kernel
theorem find80_some {n:List UInt8} {ws:List (List UInt8)} {op:Nat} (h:find80 n ws=some op):op < 256∧words80 op=n :: ws∧name80 op=n∧args80 op=ws:=by
 have h1:=List.mem_of_find?_eq_some h
 have h2:=List.find?_some h
 simp only [beq_iff_eq] at h2
 exact ⟨List.mem_range.1 h1,h2,by unfold name80;rw [h2];rfl,by unfold args80;rw [h2];rfl⟩
theorem okW_at {op:Nat} (h:op < 256):(∀ x ∈ (args80 op).dropLast,x ≠ sD8∧x ≠ sD16)∧(∀ x ∈ args80 op,x ≠ []∧x ≠ [110]∧x ≠ [110,110]∧x ≠ [40,110,41]∧x ≠ [40,110,110,41]) ∧
  (name80 op ∈ names8 → size80 op=2∧(args80 op).getLast? = some sD8)∧(name80 op ∉ names8 → name80 op ∈ names16 → size80 op=3∧(args80 op).getLast? = some sD16) ∧
  (name80 op ∉ names8 → name80 op ∉ names16 → (args80 op).getLast? ≠ some sD8∧(args80 op).getLast? ≠ some sD16∧size80 op ≤ 1)∧(words80 op = [] ∨ (words80 op=name80 op :: args80 op∧size80 op ≠ 0)):=by
 have h1:=okW_all ⟨op,h⟩
 unfold okW at h1
 simp only [Bool.and_eq_true,List.all_eq_true,bne_iff_ne] at h1
 obtain ⟨⟨⟨h2,h3⟩,h4⟩,h5⟩:=h1
 refine ⟨fun x hx=>by have:=h2 x hx;simpa using this,fun x hx=>by have:=h3 x hx;simpa [and_assoc] using this,fun hn=>?_,fun hn hm=>?_,fun hn hm=>?_,?_⟩
 ·rw [if_pos hn] at h4;simpa using h4
 ·rw [if_neg hn,if_pos hm] at h4;simpa using h4
 ·rw [if_neg hn,if_neg hm] at h4;simpa [and_assoc] using h4
 ·simpa using h5
theorem trim_cases (s:List UInt8):trimU s=s ∨ ∃ r,s=r ++ [95]:=by
 unfold trimU
 rcases List.eq_nil_or_concat s with rfl | ⟨r,c,rfl⟩
 ·exact .inl rfl
 ·rw [List.concat_eq_append]
  by_cases hc:c=95
  ·exact .inr ⟨r,by rw [hc]⟩
  ·left
   rw [List.reverse_append,List.reverse_singleton,List.singleton_append,List.dropWhile_cons]
   simp [hc]
theorem res_mark (r:List UInt8):resB 1 (r ++ [95])=false:=by
 unfold resB
 rw [if_neg (by decide),if_pos rfl,decide_eq_false_iff_not]
 intro h
 have h2:∀ x ∈ zilogW,x.getLast? ≠ some 95:=by decide
 exact h2 _ h (by simp)
theorem sets_mark (r:List UInt8):setsB (r ++ [95])=false:=by
 unfold setsB
 rw [decide_eq_false_iff_not]
 intro h
 have h2:∀ x ∈ [sEQU,sSET],x.getLast? ≠ some 95:=by decide
 exact h2 _ h (by simp)
theorem name_mark (s:List UInt8) (h:nameB s=true) (hl:s.length < 16):nameB (s ++ [95])=true:=by
 unfold nameB at *
 simp only [Bool.and_eq_true,decide_eq_true_eq,List.all_eq_true,Bool.or_eq_true] at *
 obtain ⟨⟨⟨h1,h2⟩,h3⟩,h4⟩:=h
 refine ⟨⟨⟨by simp,by simp;omega⟩,?_⟩,?_⟩
 ·cases s with
  | nil=>simp at h1
  | cons a r=>exact h3
 ·intro c hc
  rcases List.mem_append.1 hc with h5 | h5
  ·exact h4 c h5
  ·have:c=95:=by simpa using h5
   subst this
   exact .inl (by decide)
theorem ren_plain {m:List UInt8} (h:plainB 0 m=true) (h2:(renA m).2=0):plainB 1 (renA m).1=true:=by
 unfold plainB at h
 simp only [Bool.and_eq_true,Bool.not_eq_true'] at h
 obtain ⟨⟨hg,hr⟩,hs⟩:=h
 unfold renA at *
 unfold plainB
 by_cases c:resB 1 (trimU m)=false ∨ resB 0 (trimU m)=true
 ·rw [if_pos c]
  simp only [hg,hs,Bool.not_false,Bool.and_true,Bool.true_and,Bool.not_eq_true']
  rcases trim_cases m with e | ⟨r,e⟩
  ·rw [e] at c
   rcases c with c | c
   ·exact c
   ·rw [hr] at c;cases c
  ·rw [e];exact res_mark r
 ·rw [if_neg c] at h2 ⊢
  by_cases cl:16 ≤ m.length
  ·rw [if_pos cl] at h2;cases h2
  ·rw [if_neg cl]
   simp only [res_mark,sets_mark,Bool.not_false,Bool.and_true]
   unfold greatB at *
   simp only [Bool.and_eq_true,beq_iff_eq] at *
   exact ⟨name_mark m hg.1 (by omega),by rw [upper_append,hg.2];rfl⟩
theorem ren_empty (m:List UInt8) (h:m ≠ []) (h2:(renA m).2=0):(renA m).1 ≠ []:=by
 unfold renA at *
 by_cases c:resB 1 (trimU m)=false ∨ resB 0 (trimU m)=true
 ·rw [if_pos c];exact h
 ·rw [if_neg c] at h2 ⊢
  by_cases cl:16 ≤ m.length
  ·rw [if_pos cl] at h2;cases h2
  ·rw [if_neg cl];simp
theorem plain_head {m:List UInt8} (h:plainB 1 m=true) (k:Nat) (hk:k=0):headE sN 0 m k=true:=by
 unfold plainB greatB resB at h
 simp only [Bool.and_eq_true,Bool.not_eq_true',beq_iff_eq] at h
 obtain ⟨⟨⟨h1,h2⟩,h3⟩,_⟩:=h
 simp only [show ¬((1:Int)=0) by decide,if_false,if_true,decide_eq_false_iff_not] at h3
 have h4:wordE m=false:=by
  unfold wordE
  rw [decide_eq_false_iff_not]
  rintro (rfl | rfl | rfl | rfl | rfl | rfl | rfl) <;> exact h3 (by decide)
 unfold headE
 simp [h1,h2,h4,hk,bindsE]
theorem renL_map (s:List Ex) (h:(renL s).2=0):(renL s).1=s.map (fun e=>(renE e).1)∧∀ e ∈ s,(renE e).2=0:=by
 induction s with
 | nil=>exact ⟨rfl,by simp⟩
 | cons a r ih=>
  simp only [renL] at h ⊢
  by_cases c1:(renE a).2 ≠ 0
  ·rw [if_pos c1] at h;exact absurd h c1
  ·rw [if_neg c1] at h ⊢
   by_cases c2:(renL r).2 ≠ 0
   ·rw [if_pos c2] at h;exact absurd h c2
   ·rw [if_neg c2]
    obtain ⟨e1,e2⟩:=ih (by simpa using c2)
    refine ⟨by rw [List.map_cons,e1],fun e he=>?_⟩
    rcases List.mem_cons.1 he with rfl | he
    ·simpa using c1
    ·exact e2 e he
theorem renE_mk {o:List UInt8} {n:Nat} {m:List UInt8} {s:List Ex} (h:(renE (.mk o n m s)).2=0) :
  (renE (.mk o n m s)).1=.mk o n (if o=sN then (renA m).1 else m) (s.map fun e=>(renE e).1)∧(o=sN → (renA m).2=0)∧∀ e ∈ s,(renE e).2=0:=by
 simp only [renE] at h ⊢
 by_cases c1:o=sN∧(renA m).2 ≠ 0
 ·rw [if_pos c1] at h;exact absurd h c1.2
 ·rw [if_neg c1] at h ⊢
  by_cases c2:(renL s).2 ≠ 0
  ·rw [if_pos c2] at h;exact absurd h c2
  ·rw [if_neg c2]
   obtain ⟨e1,e2⟩:=renL_map s (by simpa using c2)
   exact ⟨by rw [e1],fun ho=>Decidable.not_not.1 fun hx=>c1 ⟨ho,hx⟩,e2⟩
theorem namesL_flat (s:List Ex):namesL s=s.flatMap namesE:=by
 induction s with
 | nil=>rfl
 | cons a r ih=>simp only [namesL,List.flatMap_cons,ih]
theorem deepL_map (s:List Ex) (f:Ex → Ex) (h:∀ e ∈ s,deepE (f e)=deepE e):deepL (s.map f)=deepL s:=by
 induction s with
 | nil=>rfl
 | cons a r ih=>simp only [List.map_cons,deepL,h a (by simp),ih (fun e he=>h e (by simp [he]))]
theorem rightL_map (s:List Ex) (f:Ex → Ex) (d:Nat) (h:∀ e ∈ s,rightE e d=true → rightE (f e) d=true) (hs:rightL s d=true):rightL (s.map f) d=true:=by
 induction s with
 | nil=>rfl
 | cons a r ih=>
  simp only [rightL,Bool.and_eq_true] at hs
  simp only [List.map_cons,rightL,Bool.and_eq_true]
  exact ⟨h a (by simp) hs.1,ih (fun e he=>h e (by simp [he])) hs.2⟩
theorem renE_all (e:Ex):(renE e).2=0 → deepE (renE e).1=deepE e∧(namesE (renE e).1).length=(namesE e).length ∧
  ((namesE e).all (plainB 0)=true → (namesE (renE e).1).all (plainB 1)=true∧∀ d,rightE e d=true → rightE (renE e).1 d=true):=by
 refine Ex.ind (P:=fun e=>(renE e).2=0 → deepE (renE e).1=deepE e∧(namesE (renE e).1).length=(namesE e).length ∧
  ((namesE e).all (plainB 0)=true → (namesE (renE e).1).all (plainB 1)=true∧∀ d,rightE e d=true → rightE (renE e).1 d=true)) (fun o n m s ih h=>?_) e
 obtain ⟨e1,e2,e3⟩:=renE_mk h
 rw [e1]
 have hi:=fun e he=>ih e he (e3 e he)
 refine ⟨?_,?_,fun hp=>⟨?_,fun d hr=>?_⟩⟩
 ·simp only [deepE]
  rw [deepL_map s _ (fun e he=>(hi e he).1)]
 ·simp only [namesE,namesL_flat,List.length_append,List.length_flatMap,List.map_map]
  have h1:(s.map fun e=>(namesE (renE e).1).length)=s.map fun e=>(namesE e).length:=List.map_congr_left (fun e he=>(hi e he).2.1)
  simp only [Function.comp_def,h1]
  by_cases ho:o=sN <;> simp [ho]
 ·simp only [namesE,namesL_flat,List.all_append,Bool.and_eq_true,List.all_flatMap] at hp ⊢
  refine ⟨?_,?_⟩
  ·by_cases ho:o=sN
   ·simp only [if_pos ho,List.all_cons,List.all_nil,Bool.and_true] at hp ⊢
    exact ren_plain hp.1 (e2 ho)
   ·simp [ho]
  ·simp only [List.all_eq_true,List.all_map,Function.comp_def] at hp ⊢
   intro e he x hx
   have:=((hi e he).2.2 (by simpa using hp.2 e he)).1
   exact List.all_eq_true.1 this x hx
 ·simp only [rightE,Bool.and_eq_true,Bool.not_eq_true',beq_eq_false_iff_ne] at hr ⊢
  simp only [namesE,namesL_flat,List.all_append,Bool.and_eq_true,List.all_flatMap] at hp
  refine ⟨⟨hr.1.1,?_⟩,?_⟩
  ·rw [List.length_map]
   by_cases ho:o=sN
   ·have h1:=hp.1
    simp only [if_pos ho,List.all_cons,List.all_nil,Bool.and_true] at h1 ⊢
    rcases head_cases _ _ _ _ hr.1.2 with ⟨g,_⟩ | ⟨_,hk,hn,_⟩ | ⟨g,_⟩ | ⟨g,_⟩ | ⟨g,_⟩ | ⟨r,hb,_⟩
    ·rw [ho] at g;cases g
    ·rw [ho,hn];exact plain_head (ren_plain h1 (e2 ho)) _ hk
    ·rw [ho] at g;cases g
    ·rw [ho] at g;cases g
    ·rw [ho] at g;cases g
    ·exact absurd ho hb.binds.2.2.1
   ·rw [if_neg ho];exact hr.1.2
  ·refine rightL_map s _ _ (fun e he h1=>((hi e he).2.2 ?_).2 _ h1) hr.2
   simp only [List.all_eq_true] at hp ⊢
   intro x hx
   exact hp.2 e he x hx
theorem right_less (e:Ex):∀ d,rightE e (d + 1)=true → deepE e ≤ d → rightE e d=true:=by
 refine Ex.ind (P:=fun e=>∀ d,rightE e (d + 1)=true → deepE e ≤ d → rightE e d=true) (fun o n m s ih d h hd=>?_) e
 simp only [deepE] at hd
 simp only [rightE,Bool.and_eq_true,Bool.not_eq_true',beq_eq_false_iff_ne] at h ⊢
 refine ⟨⟨by omega,h.1.2⟩,?_⟩
 obtain ⟨k,rfl⟩:∃ k,d=k + 1:=⟨d - 1,by omega⟩
 have hr:=h.2
 rw [show k + 1 + 1 - 1=k + 1 from rfl] at hr
 rw [show k + 1 - 1=k from rfl]
 have hd2:deepL s ≤ k:=by omega
 clear h hd
 induction s with
 | nil=>rfl
 | cons a r ih2=>
  simp only [rightL,deepL,Bool.and_eq_true] at hr hd2 ⊢
  exact ⟨ih a (by simp) k hr.1 (by omega),ih2 (fun e he=>ih e (by simp [he])) hr.2 (by omega)⟩
theorem eight_all (e:Ex) (h:rightE e 24=true):(rightE (eightE e) 24=true ∨ 24 ≤ deepE e)∧(namesE (eightE e))=namesE e:=by
 obtain ⟨o,n,m,s⟩:=e
 unfold eightE
 by_cases ho:o = [35]
 ·rw [show (Ex.mk o n m s).op=o from rfl,if_pos ho]
  subst ho
  refine ⟨.inl ?_,rfl⟩
  simp only [rightE,headE,Bool.and_eq_true,Ex.n,Ex.name,Ex.sub] at h ⊢
  simpa using h
 ·rw [show (Ex.mk o n m s).op=o from rfl,if_neg ho]
  refine ⟨?_,by simp [namesE,namesL]⟩
  by_cases hd:24 ≤ deepE (.mk o n m s)
  ·exact .inr hd
  ·left
   have:=right_less _ 23 h (by omega)
   have h8:rightE (.mk [35] 8 [] []) 23=true:=by decide
   have hh:headE [42] 0 [] 2=true:=by decide
   rw [rightE,rightL,rightL,rightL,show 24 - 1=23 from rfl,this,h8,show [Ex.mk o n m s,.mk [35] 8 [] []].length=2 from rfl,hh]
   rfl
theorem names_ex0:namesE ex0 = []:=by simp [ex0,namesE,namesL]
theorem empty_e {a:Ar} (h:emptyA a=true):a.e=ex0:=by
 unfold emptyA at h
 simp only [Bool.and_eq_true] at h
 exact (sameE_iff _ _).1 h.1
theorem ar_right {op:List UInt8} {a:Ar} (h:rightA 0 op a=true) (h2:(renAr a).2=0) :
  (renAr a).1.w=a.w∧(renAr a).1.is=a.is∧(namesE (renAr a).1.e).length=(namesE a.e).length∧(a.w ≠ [] → namesE (renAr a).1.e = []) ∧
  (a.w = [] → op ≠ sDB → (renAr a).1.is=false∧rightE (renAr a).1.e 24=true∧(namesE (renAr a).1.e).all (plainB 1)=true∧deepE (renAr a).1.e=deepE a.e)∧(a.w = [] → rightA 1 op (renAr a).1=true):=by
 unfold rightA at h
 by_cases hw:a.w ≠ []
 ·rw [if_pos hw] at h
  simp only [Bool.and_eq_true] at h
  have he:=empty_e h.1.1.1
  have e1:renAr a=(a,0):=by unfold renAr;rw [if_pos (.inl hw)]
  rw [e1]
  exact ⟨rfl,rfl,rfl,fun _=>by rw [he,names_ex0],fun h=>absurd h hw,fun h=>absurd h hw⟩
 ·rw [if_neg hw] at h
  have hw:a.w = []:=Decidable.not_not.1 hw
  by_cases hi:a.is=true
  ·rw [if_pos hi] at h
   have e1:renAr a=(a,0):=by unfold renAr;rw [if_pos (.inr hi)]
   rw [e1]
   simp only [Bool.and_eq_true,beq_iff_eq] at h
   refine ⟨rfl,rfl,rfl,fun h=>absurd hw h,fun _ hne=>absurd h.1.2 hne,fun _=>?_⟩
   unfold rightA
   rw [if_neg (by simpa using hw),if_pos hi]
   simp only [Bool.and_eq_true,beq_iff_eq]
   exact h
  ·rw [if_neg hi] at h
   have e1:renAr a=(⟨a.w,a.t,a.is,a.mem,(renE a.e).1⟩,(renE a.e).2):=by
    unfold renAr;rw [if_neg (by rintro (h | h);exact h hw;exact hi h)]
   rw [e1] at h2 ⊢
   have h2:(renE a.e).2=0:=h2
   by_cases c:a.t ≠ [] ∨ (a.mem=true∧(0:Int)=0) ∨ rightE a.e 24=false
   ·rw [if_pos c] at h;cases h
   ·rw [if_neg c] at h
    have ct:a.t = []:=Decidable.not_not.1 fun hx=>c (.inl hx)
    have cm:a.mem=false:=Bool.eq_false_iff.2 fun hx=>c (.inr (.inl ⟨hx,rfl⟩))
    have cr:rightE a.e 24=true:=by
     cases hx:rightE a.e 24 with
     | true=>rfl
     | false=>exact absurd (.inr (.inr hx)) c
    obtain ⟨k1,k2,k3⟩:=renE_all a.e h2
    obtain ⟨k4,k5⟩:=k3 h
    have hi:a.is=false:=by simpa using hi
    refine ⟨rfl,rfl,k2,fun h=>absurd hw h,fun _ _=>⟨hi,k5 24 cr,k4,k1⟩,fun _=>?_⟩
    unfold rightA
    simp only [hw,hi,ct,cm,k5 24 cr,ne_eq,not_true,if_false,Bool.false_eq_true,false_and,false_or,Bool.true_eq_false,k4]
theorem renArs_map (l:List Ar) (h:(renArs l).2=0):(renArs l).1=l.map (fun a=>(renAr a).1)∧∀ a ∈ l,(renAr a).2=0:=by
 induction l with
 | nil=>exact ⟨rfl,by simp⟩
 | cons a r ih=>
  simp only [renArs] at h ⊢
  by_cases c1:(renAr a).2 ≠ 0
  ·rw [if_pos c1] at h;exact absurd h c1
  ·rw [if_neg c1] at h ⊢
   by_cases c2:(renArs r).2 ≠ 0
   ·rw [if_pos c2] at h;exact absurd h c2
   ·rw [if_neg c2]
    obtain ⟨e1,e2⟩:=ih (by simpa using c2)
    refine ⟨by rw [List.map_cons,e1],fun e he=>?_⟩
    rcases List.mem_cons.1 he with rfl | he
    ·simpa using c1
    ·exact e2 e he
def sumN (l:List Ar):Nat:=(l.map fun a=>(namesE a.e).length).sum
def isNum (x:List UInt8):Bool:=decide (x = [110] ∨ x = [110,110] ∨ x = [40,110,41] ∨ x = [40,110,110,41])
def okZ (op:Nat):Bool:=words80 op == [] || name80 op == sRST || (greatB (zname op) && !setsB (zname op) && decide ((zargs op).length ≤ 32) && (zargs op).all (fun x=>isNum x || (wordB 1 x && x != [])) &&
 (((zargs op).filter isNum).length == if 1 < size80 op then 1 else 0) && decide (((args80 op).filter fun x=>x == sD8 || x == sD16).length ≤ 1))
theorem okZ_all:∀ k:Fin 256,okZ k.val=true:=by decide +kernel
theorem expr_cons (a:Ar) (r:List Ar):exprRw (a :: r)=(if a.w = [] then a.e else exprRw r)∧(exprPos (a :: r)).isSome=(a.w == [] || (exprPos r).isSome):=by
 unfold exprRw exprPos
 rw [List.findIdx?_cons]
 by_cases h:a.w = []
 ·simp [h]
 ·have:(a.w == [])=false:=by simpa using h
  rw [this,if_neg h]
  cases List.findIdx? (fun a=>a.w == []) r <;> simp
theorem expr_mem (l:List Ar) (h:(exprPos l).isSome=true):∃ a ∈ l,a.w = []∧exprRw l=a.e:=by
 induction l with
 | nil=>cases h
 | cons a r ih=>
  obtain ⟨e1,e2⟩:=expr_cons a r
  rw [e2] at h
  rw [e1]
  by_cases hw:a.w = []
  ·exact ⟨a,by simp,hw,by rw [if_pos hw]⟩
  ·have:(a.w == [])=false:=by simpa using hw
   rw [this,Bool.false_or] at h
   obtain ⟨b,hb,k⟩:=ih h
   exact ⟨b,by simp [hb],by rw [if_neg hw];exact k⟩
theorem sum_none (l:List Ar) (h:∀ a ∈ l,a.w ≠ [] → namesE a.e = []) (h1:l.filter (fun a=>a.w == []) = []):sumN l=0:=by
 induction l with
 | nil=>rfl
 | cons a r ih=>
  have h2:=List.filter_eq_nil_iff.1 h1
  have h3:=h2 a (by simp)
  rw [show sumN (a :: r)=(namesE a.e).length + sumN r by simp [sumN],h a (by simp) (by simpa using h3),ih (fun b hb=>h b (by simp [hb])) (List.filter_eq_nil_iff.2 fun b hb=>h2 b (by simp [hb]))]
  rfl
theorem sum_one (l:List Ar) (h:∀ a ∈ l,a.w ≠ [] → namesE a.e = []) (h1:(l.filter (fun a=>a.w == [])).length ≤ 1):sumN l=if (exprPos l).isSome=true then (namesE (exprRw l)).length else 0:=by
 induction l with
 | nil=>rfl
 | cons a r ih=>
  obtain ⟨e1,e2⟩:=expr_cons a r
  have es:sumN (a :: r)=(namesE a.e).length + sumN r:=by simp [sumN]
  rw [es,e1,e2]
  by_cases hw:a.w = []
  ·have hb:(a.w == [])=true:=by simpa using hw
   rw [List.filter_cons_of_pos (p:=fun a:Ar=>a.w == []) hb,List.length_cons] at h1
   rw [hb,Bool.true_or,if_pos rfl,if_pos hw,sum_none r (fun a ha=>h a (by simp [ha])) (List.length_eq_zero_iff.1 (by omega))]
   rfl
  ·have hb:(a.w == [])=false:=by simpa using hw
   rw [List.filter_cons_of_neg (p:=fun a:Ar=>a.w == []) (by simpa using hb)] at h1
   rw [hb,Bool.false_or,if_neg hw,h a (by simp) hw,ih (fun a ha=>h a (by simp [ha])) h1]
   simp
theorem words_filter (num:List UInt8) (p:List UInt8 → Bool) (hp:p num=true) (l:List Ar):(l.filter (fun a=>a.w == [])).length ≤ ((wordsRw num l).filter p).length:=by
 induction l with
 | nil=>exact Nat.le_refl _
 | cons a r ih=>
  rw [show wordsRw num (a :: r)=(if a.w = [] then num else a.w) :: wordsRw num r from rfl]
  by_cases hw:a.w = []
  ·rw [List.filter_cons_of_pos (p:=fun a:Ar=>a.w == []) (by simpa using hw),if_pos hw,List.filter_cons_of_pos hp,List.length_cons,List.length_cons]
   omega
  ·rw [List.filter_cons_of_neg (p:=fun a:Ar=>a.w == []) (by simpa using hw),if_neg hw,List.filter_cons]
   split
   ·rw [List.length_cons];omega
   ·exact ih
theorem sum_args (e:Ex) (l:List (List UInt8)):sumN (l.map (argRw e))=(l.filter isNum).length * (namesE e).length:=by
 induction l with
 | nil=>simp [sumN]
 | cons x r ih=>
  have es:sumN ((x :: r).map (argRw e))=(namesE (argRw e x).e).length + sumN (r.map (argRw e)):=by simp [sumN]
  rw [es,ih]
  by_cases hx:isNum x=true
  ·rw [List.filter_cons_of_pos hx,List.length_cons]
   have:(argRw e x).e=e:=by
    unfold isNum at hx
    rw [decide_eq_true_eq] at hx
    unfold argRw
    rcases hx with rfl | rfl | rfl | rfl <;> rfl
   rw [this,Nat.add_mul]
   omega
  ·rw [List.filter_cons_of_neg hx]
   have:(argRw e x).e=ex0:=by
    unfold isNum at hx
    simp only [decide_eq_true_eq,not_or] at hx
    unfold argRw
    rw [if_neg (by simp [hx]),if_neg (by simp [hx])]
   rw [this,names_ex0]
   simp
theorem arg_right (op:List UInt8) (e:Ex) (x:List UInt8) (hx:isNum x=true ∨ (wordB 1 x=true∧x ≠ [])) (he:isNum x=true → rightE e 24=true∧(namesE e).all (plainB 1)=true):rightA 1 op (argRw e x)=true:=by
 by_cases hn:isNum x=true
 ·obtain ⟨h1,h2⟩:=he hn
  unfold isNum at hn
  rw [decide_eq_true_eq] at hn
  unfold argRw rightA
  rcases hn with rfl | rfl | rfl | rfl <;> simp [h1,-List.all_eq_true,h2]
 ·have hx:=hx.resolve_left hn
  unfold isNum at hn
  simp only [decide_eq_true_eq,not_or] at hn
  have e1:argRw e x=⟨x,[],false,false,ex0⟩:=by
   unfold argRw
   rw [if_neg (by simp [hn]),if_neg (by simp [hn])]
  rw [e1]
  unfold rightA
  rw [if_pos hx.2]
  show (emptyA ⟨x,[],false,false,ex0⟩ && true && true && wordB 1 x)=true
  rw [hx.1]
  simp [emptyA,sameE_refl]
theorem right_parts {d:Int} {s:St} (h:rightS d s=0):knownB d=true∧(s.label ≠ [] → plainB d s.label=true)∧(s.op = [] → s.args = [])∧(s.op ≠ [] → greatB s.op=true) ∧
  (setsB s.op=true → s.label ≠ [])∧s.colon=(!s.label.isEmpty && !setsB s.op)∧s.args.length ≤ 32∧s.args.all (rightA d s.op)=true:=by
 unfold rightS at h
 by_cases c1:knownB d=false
 ·rw [if_pos c1] at h;cases h
 rw [if_neg c1] at h
 by_cases c2:s.label ≠ []∧plainB d s.label=false
 ·rw [if_pos c2] at h;cases h
 rw [if_neg c2] at h
 by_cases c3:(s.op = []∧s.args ≠ []) ∨ (s.op ≠ []∧greatB s.op=false)
 ·rw [if_pos c3] at h;cases h
 rw [if_neg c3] at h
 by_cases c4:(setsB s.op=true∧s.label = []) ∨ s.colon ≠ (!s.label.isEmpty && !setsB s.op) ∨ 32 < s.args.length
 ·rw [if_pos c4] at h;cases h
 rw [if_neg c4] at h
 by_cases c5:s.args.all (rightA d s.op)=false
 ·rw [if_pos c5] at h;cases h
 simp only [not_or,not_and,Bool.not_eq_false,ne_eq,Decidable.not_not,Nat.not_lt] at c1 c2 c3 c4 c5
 exact ⟨c1,c2,c3.1,c3.2,c4.1,c4.2.1,c4.2.2,c5⟩
theorem right_of {d:Int} {s:St} (h1:knownB d=true) (h2:s.label ≠ [] → plainB d s.label=true) (h3:s.op = [] → s.args = []) (h4:s.op ≠ [] → greatB s.op=true)
  (h5:setsB s.op=true → s.label ≠ []) (h6:s.colon=(!s.label.isEmpty && !setsB s.op)) (h7:s.args.length ≤ 32) (h8:s.args.all (rightA d s.op)=true):rightS d s=0:=by
 unfold rightS
 rw [if_neg (by rw [h1];decide),if_neg,if_neg,if_neg,if_neg (by rw [h8];decide)]
 ·rintro (⟨g1,g2⟩ | g | g)
  ·exact h5 g1 g2
  ·exact g h6
  ·omega
 ·rintro (⟨g1,g2⟩ | ⟨g1,g2⟩)
  ·exact g2 (h3 g1)
  ·rw [h4 g1] at g2;cases g2
 ·rintro ⟨g1,g2⟩
  rw [h2 g1] at g2;cases g2
theorem sum_same (l:List Ar) (f:Ar → Ar) (h:∀ a ∈ l,(namesE (f a).e).length=(namesE a.e).length):sumN (l.map f)=sumN l:=by
 unfold sumN
 rw [List.map_map]
 exact congrArg List.sum (List.map_congr_left fun a ha=>h a ha)
theorem pos_zero {a:Ar} {r:List Ar} (h:exprPos (a :: r)=some 0):a.w = []:=by
 unfold exprPos at h
 rw [List.findIdx?_cons] at h
 by_cases hw:a.w = []
 ·exact hw
 ·have:(a.w == [])=false:=by simpa using hw
  rw [this,if_neg (by decide)] at h
  cases hx:List.findIdx? (fun a=>a.w == []) r <;> rw [hx] at h <;> simp at h
theorem opcode_find {s:St} {op:Nat} (h:opcodeRw s=some op):∃ num,(num = [] ∨ num=sD8 ∨ num=sD16)∧find80 s.op (wordsRw num s.args)=some op∧((1 < size80 op) ↔ (exprPos s.args).isSome=true):=by
 have ht:∀ num,tryRw s num=some op → find80 s.op (wordsRw num s.args)=some op∧((1 < size80 op) ↔ (exprPos s.args).isSome=true):=fun num h=>by
  unfold tryRw at h
  cases hf:find80 s.op (wordsRw num s.args) with
  | none=>rw [hf] at h;cases h
  | some o=>
   rw [hf] at h
   simp only at h
   by_cases c:(1 < size80 o)=((exprPos s.args).isSome=true)
   ·rw [if_pos c] at h
    injection h with h
    subst h
    exact ⟨rfl,by rw [c]⟩
   ·rw [if_neg c] at h;cases h
 unfold opcodeRw at h
 cases h0:tryRw s [] with
 | some o=>rw [h0] at h;injection h with h;subst h;exact ⟨[],.inl rfl,ht _ h0⟩
 | none=>
  rw [h0] at h
  simp only at h
  cases h1:tryRw s sD8 with
  | some o=>rw [h1] at h;injection h with h;subst h;exact ⟨sD8,.inr (.inl rfl),ht _ h1⟩
  | none=>rw [h1] at h;exact ⟨sD16,.inr (.inr rfl),ht _ h⟩
def rtB (s t:St):Prop:=(rightS 1 t=0 ∨ (s.op=sRST∧s.args.length=1∧24 ≤ deepE (arg0 s)∧∃ x,rightE x 24=true∧t.args = [⟨[],[],false,false,eightE x⟩]))∧sumN t.args=sumN s.args∧t.label.isEmpty=s.label.isEmpty
theorem rt_all (s t:St) (h:stmtRw s=(t,0)):rtB s t:=by
 unfold stmtRw at h
 by_cases c1:rightS 0 s ≠ 0
 ·rw [if_pos c1] at h;injection h with _ h;exact absurd h c1
 rw [if_neg c1] at h
 by_cases c2:(renA s.label).2 ≠ 0
 ·rw [if_pos c2] at h;injection h with _ h;exact absurd h c2
 rw [if_neg c2] at h
 by_cases c3:(renArs s.args).2 ≠ 0
 ·rw [if_pos c3] at h;injection h with _ h;exact absurd h c3
 rw [if_neg c3] at h
 have c1:rightS 0 s=0:=Decidable.not_not.1 c1
 have c2:(renA s.label).2=0:=Decidable.not_not.1 c2
 have c3:(renArs s.args).2=0:=Decidable.not_not.1 c3
 obtain ⟨_,r2,r3,r4,r5,r6,r7,r8⟩:=right_parts c1
 obtain ⟨m1,m2⟩:=renArs_map s.args c3
 have hA:=fun a ha=>ar_right (List.all_eq_true.1 r8 a ha) (m2 a ha)
 have hlab:(renA s.label).1.isEmpty=s.label.isEmpty:=by
  by_cases hl:s.label = []
  ·rw [hl];rfl
  ·have:=ren_empty _ hl c2
   cases hs:s.label with
   | nil=>exact absurd hs hl
   | cons a r=>
    rw [hs] at this
    cases hr:(renA (a :: r)).1 with
    | nil=>exact absurd hr this
    | cons b l=>rfl
 have hlab2:(renA s.label).1 ≠ [] → plainB 1 (renA s.label).1=true:=fun hne=>by
  by_cases hl:s.label = []
  ·exact absurd (by rw [hl];rfl) hne
  ·exact ren_plain (r2 hl) c2
 have hsum:sumN (renArs s.args).1=sumN s.args:=by rw [m1];exact sum_same _ _ (fun a ha=>(hA a ha).2.2.1)
 by_cases cd:s.op ∉ dirOps
 ·rw [if_pos cd] at h
  have hdb:s.op ≠ sDB:=fun e=>cd (by rw [e];decide)
  have hset:setsB s.op=false:=by
   unfold setsB
   rw [decide_eq_false_iff_not]
   intro hm
   rcases List.mem_cons.1 hm with e | e
   ·exact cd (by rw [e];decide)
   ·exact cd (by rw [List.mem_singleton.1 e];decide)
  have hcol:s.colon=(!(renA s.label).1.isEmpty):=by rw [r6,hlab,hset];simp
  have hNo:∀ a ∈ (renArs s.args).1,a.w ≠ [] → namesE a.e = []:=fun a ha hw=>by
   rw [m1] at ha
   obtain ⟨b,hb,rfl⟩:=List.mem_map.1 ha
   obtain ⟨k1,_,_,k4,_⟩:=hA b hb
   exact k4 (by rw [← k1];exact hw)
  have hYes:∀ a ∈ (renArs s.args).1,a.w = [] → rightE a.e 24=true∧(namesE a.e).all (plainB 1)=true:=fun a ha hw=>by
   rw [m1] at ha
   obtain ⟨b,hb,rfl⟩:=List.mem_map.1 ha
   obtain ⟨k1,_,_,_,k5,_⟩:=hA b hb
   have:=k5 (by rw [← k1];exact hw) hdb
   exact ⟨this.2.1,this.2.2.1⟩
  unfold turnRw at h
  rw [show (renS s).op=s.op from rfl,show (renS s).args=(renArs s.args).1 from rfl,show (renS s).label=(renA s.label).1 from rfl,show (renS s).colon=s.colon from rfl] at h
  by_cases cr:s.op=sRST
  ·simp only [if_pos cr] at h
   by_cases ca:(renArs s.args).1.length ≠ 1 ∨ exprPos (renArs s.args).1 ≠ some 0
   ·simp only [if_pos ca] at h;simp at h
   ·simp only [if_neg ca] at h
    simp only [not_or,ne_eq,Decidable.not_not] at ca
    obtain ⟨ca1,ca2⟩:=ca
    rw [if_neg (by simp)] at h
    injection h with h _
    have hl1:s.args.length=1:=by rw [m1,List.length_map] at ca1;exact ca1
    obtain ⟨a,ha⟩:∃ a,s.args = [a]:=List.length_eq_one_iff.1 hl1
    have hm:(renArs s.args).1 = [(renAr a).1]:=by rw [m1,ha];rfl
    have e0:arg0 (renS s)=(renAr a).1.e:=by unfold arg0;rw [show (renS s).args=(renArs s.args).1 from rfl,hm];rfl
    have e1:arg0 s=a.e:=by unfold arg0;rw [ha];rfl
    rw [hm] at ca2
    obtain ⟨k1,k2,k3,k4,k5,k6⟩:=hA a (by rw [ha];simp)
    have hw:=pos_zero ca2
    rw [k1] at hw
    obtain ⟨q1,q2,q3,q4⟩:=k5 hw hdb
    obtain ⟨z1,z2⟩:=eight_all (renAr a).1.e q2
    subst h
    rw [e0]
    refine ⟨?_,?_,hlab⟩
    ·rcases z1 with z1 | z1
     ·left
      refine right_of (by decide) hlab2 (fun h=>absurd (show sRST = [] from h) (by decide)) (fun _=>show greatB sRST=true by decide) (fun h=>absurd (show setsB sRST=true from h) (by decide)) ?_ (show 1 ≤ 32 by decide) ?_
      ·rw [hcol]
       show _=(_ && !setsB sRST)
       rw [show setsB sRST=false by decide]
       simp
      ·simp only [List.all_cons,List.all_nil,Bool.and_true]
       unfold rightA
       simp only [ne_eq,not_true,if_false,Bool.false_eq_true,false_and,false_or,z1,Bool.true_eq_false,z2,q3]
     ·exact .inr ⟨cr,hl1,by rw [e1,← q4];exact z1,_,q2,rfl⟩
    ·rw [← hsum,hm]
     simp [sumN,z2]
  ·simp only [if_neg cr] at h
   cases ho:opcodeRw (renS s) with
   | none=>rw [ho] at h;simp at h
   | some op=>
    rw [ho] at h
    simp only at h
    rw [if_neg (by simp)] at h
    injection h with h _
    obtain ⟨num,hnum,hf,hiff⟩:=opcode_find ho
    obtain ⟨hlt,hwo,hna,hargs⟩:=find80_some hf
    have hz:=okZ_all ⟨op,hlt⟩
    unfold okZ at hz
    have hna:name80 op=s.op:=hna
    have hz0:(words80 op == [])=false:=by rw [hwo];rfl
    have hz1:(name80 op == sRST)=false:=by rw [hna];simpa using cr
    simp only [hz0,hz1,Bool.false_or,Bool.and_eq_true,Bool.not_eq_true',decide_eq_true_eq] at hz
    obtain ⟨⟨⟨⟨⟨y1,y2⟩,y3⟩,y4⟩,y5⟩,y6⟩:=hz
    have y5:((zargs op).filter isNum).length=if 1 < size80 op then 1 else 0:=by simpa using y5
    have hcnt:((renArs s.args).1.filter (fun a=>a.w == [])).length ≤ 1:=by
     rcases hnum with rfl | hnum
     ·have:(renArs s.args).1.filter (fun a=>a.w == []) = []:=by
       rw [List.filter_eq_nil_iff]
       intro a ha hw
       have h1:[] ∈ args80 op:=by
        rw [hargs]
        exact List.mem_map.2 ⟨a,ha,if_pos (by simpa using hw)⟩
       exact ((okW_at hlt).2.1 _ h1).1 rfl
      rw [this];exact Nat.zero_le _
     ·refine Nat.le_trans (words_filter num (fun x=>x == sD8 || x == sD16) (by rcases hnum with rfl | rfl <;> decide) _) ?_
      have:wordsRw num (renArs s.args).1=args80 op:=hargs.symm
      rw [this];exact y6
    have hs1:=sum_one _ hNo hcnt
    have hiff:(1 < size80 op) ↔ (exprPos (renArs s.args).1).isSome=true:=hiff
    have hE:(exprPos (renArs s.args).1).isSome=true → rightE (exprRw (renArs s.args).1) 24=true∧(namesE (exprRw (renArs s.args).1)).all (plainB 1)=true:=fun hx=>by
     obtain ⟨a,ha,hw,he⟩:=expr_mem _ hx
     rw [he]
     exact hYes a ha hw
    have hgr:=y1
    unfold greatB nameB at hgr
    simp only [Bool.and_eq_true,decide_eq_true_eq] at hgr
    have hzne:zname op ≠ []:=fun e=>by rw [e] at hgr;simp at hgr
    subst h
    refine ⟨.inl (right_of (by decide) hlab2 (fun h=>absurd h hzne) (fun _=>y1) (fun h=>by rw [show (setsB _)=_ from y2] at h;cases h) ?_ ?_ ?_),?_,hlab⟩
    ·show s.colon=(!(renA s.label).1.isEmpty && !setsB (zname op))
     rw [hcol,y2];simp
    ·show ((zargs op).map _).length ≤ 32
     rw [List.length_map];exact y3
    ·rw [List.all_eq_true]
     intro a ha
     obtain ⟨x,hx,rfl⟩:=List.mem_map.1 ha
     refine arg_right _ _ x ?_ fun hn=>?_
     ·have:=List.all_eq_true.1 y4 x hx
      simp only [Bool.or_eq_true,Bool.and_eq_true,bne_iff_ne] at this
      exact this
     ·refine hE (hiff.1 ?_)
      by_cases hsz:1 < size80 op
      ·exact hsz
      ·rw [if_neg hsz] at y5
       have:=List.eq_nil_of_length_eq_zero y5
       exact absurd hn (List.filter_eq_nil_iff.1 this x hx)
    ·show sumN ((zargs op).map _)=_
     rw [sum_args,y5,← hsum,hs1]
     by_cases hsz:1 < size80 op
     ·rw [if_pos hsz,if_pos (hiff.1 hsz),Nat.one_mul]
     ·rw [if_neg hsz,if_neg (fun hx=>hsz (hiff.2 hx)),Nat.zero_mul]
 ·rw [if_neg cd] at h
  by_cases ca:s.args.any (fun a=>a.w != [])=true
  ·rw [if_pos ca] at h;simp at h
  ·rw [if_neg ca] at h
   injection h with h _
   subst h
   have hw:∀ a ∈ s.args,a.w = []:=fun a ha=>by
    have:=List.any_eq_false.1 (Bool.eq_false_iff.2 ca) a ha
    simpa using this
   refine ⟨.inl (right_of (by decide) hlab2 (fun h=>?_) r4 (fun h=>?_) ?_ ?_ ?_),hsum,hlab⟩
   ·show (renArs s.args).1 = []
    rw [m1,r3 h];rfl
   ·intro e
    have:s.label = []:=by
     have h2:=hlab
     rw [show (renA s.label).1 = [] from e] at h2
     simpa using h2.symm
    exact r5 h this
   ·show s.colon=(!(renA s.label).1.isEmpty && !setsB s.op)
    rw [r6,hlab]
   ·show (renArs s.args).1.length ≤ 32
    rw [m1,List.length_map];exact r7
   ·show (renArs s.args).1.all (rightA 1 s.op)=true
    rw [m1,List.all_eq_true]
    intro a ha
    obtain ⟨b,hb,rfl⟩:=List.mem_map.1 ha
    exact (hA b hb).2.2.2.2.2 (hw b hb)
theorem rt_fail (s:St) (h:(stmtRw s).2 ≠ 0):(stmtRw s).1=st0:=by
 unfold stmtRw at *
 repeat' split at h
 all_goals first | (simp at h;done) | skip
 all_goals simp_all
open Go.RowKit
theorem count_le12 (x:Ex):∀ d,lightE x d=true → countE 100 x ≤ 101 * d:=by
 induction x using Ex.ind with
 | h o n m s ih=>
  intro d h
  rw [lightE_mk,lightL_all] at h
  simp only [Bool.and_eq_true,List.all_eq_true] at h
  obtain ⟨⟨⟨⟨h0,_⟩,_⟩,_⟩,h1⟩:=h
  have hd:d ≠ 0:=by simpa using h0
  have:=countL_le 100 (101 * (d - 1)) s (fun e he=>ih e he (d - 1) (h1 e he)) 1
  rw [countE_mk]
  omega
def CountH12 (x:Ex):Prop:=∀ (d:Nat) (v:Value) (w:World),d ≤ 1000 → lightE x d=true → SubAt w (· < w.heap.size) v x.sub →
 Calls Tryz.prog 18 #[.agg #[.string ⟨x.op.toArray⟩,.int .u16 x.n,.string ⟨x.name.toArray⟩,v]] w fun e w'=>e=.returned (.int .i64 (countE 100 x))∧Below w.heap.size w w'
set_option maxRecDepth 100000 in
theorem count12_any (x:Ex):CountH12 x:=by
 induction x using Ex.ind with
 | h o n m s ih=>
  intro d v w hd hli hs
  simp only [Ex.op,Ex.name,Ex.n,Ex.sub] at hs ⊢
  rw [lightE_mk,lightL_all] at hli
  simp only [Bool.and_eq_true,List.all_eq_true] at hli
  have HLI:=LH hli.2
  obtain ⟨A,c,rfl,hc,hm2⟩:=hs.form
  unfold maxLen at hm2
  have HR:Hid (countL 100 (s.drop 0) 1=countE 100 (.mk o n m s)):=LH (by rw [countE_mk];rfl)
  have HS:=LH hs
  have HI:=LH ih
  clear hs ih hli
  generalize countE 100 (.mk o n m s)=res at *
  go_enter Tryz.func18, Tryz.ntmps18
  go_wp2_with fail
  go_loopw [3,4] (fun t i wr=>∃ k y:Nat,k ≤ s.length∧y ≤ 400000∧i=.int .i64 k∧t=.int .i64 y∧countL 100 (s.drop k) y=res∧Below (w.heap.size + 1) (w.alloc (.cells #[.string ⟨o.toArray⟩,.int .u16 n,.string ⟨m.toArray⟩,.slice A s.length c] 36)) wr) (fun _ i _=>s.length - (intOf i).toNat)
  case atStart=>exact ⟨0,1,Nat.zero_le _,by omega,rfl,rfl,HR.out,Below.refl _ _⟩
  case round=>
   clear HR
   obtain ⟨k,y,hk,hy,rfl,rfl,hall,hb⟩:=hrel
   have hz:w.heap.size < wr.heap.size:=by have:=hb.size;simp at this;omega
   have e3:=box_at hb 3 _ rfl
   have hbw:Below w.heap.size w wr:=((Below.refl _ _).alloc (Nat.le_refl _) _).trans (hb.mono (by omega))
   have HALL:=LH hall
   have HB:=LH hb
   clear hall hb
   by_cases hlt:k < s.length
   ·by_cases hy3:y ≤ 100
    ·have hy3':(y:Int) ≤ 100:=by omega
     obtain ⟨g,q,vk,rfl,hg,c0,c1,c2,c3,hsub,hn,hoo⟩:=HS.out.get k hlt
     obtain ⟨vA,vc,rfl,_,_⟩:=hsub.form
     have d0:=(hbw.cell (p:=⟨g,q + k * 4,none⟩) hg).trans c0
     have d1:=(hbw.cell (p:=⟨g,q + k * 4 + 1,none⟩) hg).trans c1
     have d2:=(hbw.cell (p:=⟨g,q + k * 4 + 2,none⟩) hg).trans c2
     have d3:=(hbw.cell (p:=⟨g,q + k * 4 + 3,none⟩) hg).trans c3
     have hli:=HLI.out s[k] (List.getElem_mem hlt)
     have hcl:=count_le12 s[k] (d - 1) hli
     have HC:=LH (HI.out s[k] (List.getElem_mem hlt) (d - 1) _ wr (by omega) hli ((hsub.bel hbw).more (fun x hx=>Nat.lt_of_lt_of_le hx hbw.size)))
     have HT:Hid (countL 100 (s.drop (k + 1)) (y + countE 100 s[k])=res):=LH (by rw [← HALL.out,List.drop_eq_getElem_cons hlt,countL_cons,if_pos hy3])
     generalize countE 100 s[k]=ck at *
     generalize s[k]=ek at *
     have HBW:=LH hbw
     clear c0 c1 c2 c3 hsub hbw hli
     go_wp2_with fail
     refine HC.out.mono ?_
     rintro e0 w5 ⟨rfl,hb5⟩
     go_wp2_with fail
     go_roundw
     case rel=>exact ⟨k + 1,y + ck,by omega,by omega,by go_num,by go_num,HT.out,HB.out.trans (hb5.mono hz)⟩
     case measure=>simp [intOf];omega
    ·have hy3':decide ((y:Int) ≤ 100)=false:=by simp;omega
     have hrl:y=res:=by rw [← HALL.out,List.drop_eq_getElem_cons hlt,countL_cons,if_neg hy3]
     subst hrl
     have HBW:=LH hbw
     clear hbw
     go_wp2_with fail
     go_ret
     exact ⟨rfl,HBW.out⟩
   ·obtain rfl:k=s.length:=by omega
    have hrl:y=res:=by rw [← HALL.out,List.drop_length,countL_nil]
    subst hrl
    have HBW:=LH hbw
    clear hbw
    go_wp2_with fail
    go_ret
    exact ⟨rfl,HBW.out⟩
def lightA (a:Ar):Bool:=decide (a.w.length ≤ 50) && decide (a.t.length ≤ 300) && lightE a.e 30 && decide (countE 100 a.e ≤ 100)
def light12 (s:St):Bool:=decide (s.label.length ≤ 50) && decide (s.op.length ≤ 50) && decide (s.args.length ≤ 40) && s.args.all lightA
def okA (a:Ar):Prop:=a.w.length ≤ maxLen∧a.t.length ≤ maxLen∧okE a.e
def okS (s:St):Prop:=s.label.length ≤ maxLen∧s.op.length ≤ maxLen∧∀ a ∈ s.args,okA a
theorem all_take {l:List Ar} {p:Ar → Bool} (k:Nat) (hk:k < l.length) (h:(l.take k).all p=true) (h1:p l[k]=true):(l.take (k + 1)).all p=true:=by
 rw [List.take_succ_eq_append_getElem hk,List.all_append,h];simpa using h1
theorem all_not {l:List Ar} {p:Ar → Bool} (k:Nat) (hk:k < l.length) (h1:p l[k]=false):l.all p=false:=by
 rw [List.all_eq_false];exact ⟨l[k],List.getElem_mem hk,by simp [h1]⟩
set_option maxRecDepth 100000 in
theorem light12_any (s:St) (v:Value) (w:World) (hok:okS s) (hs:ArAt w (· < w.heap.size) v s.args) :
  Calls Tryz.prog 6 #[stV s v] w fun e w'=>e=.returned (.bool (light12 s))∧Below w.heap.size w w':=by
 obtain ⟨A,c,rfl,hc,hm⟩:=hs.form
 obtain ⟨lab,colon,op,l⟩:=s
 obtain ⟨o1,o2,o3⟩:=hok
 unfold stV light12
 simp only at *
 unfold maxLen at o1 o2 hm
 have HS:=LH hs
 have HOK:=LH o3
 clear hs o3
 by_cases h1:50 < lab.length
 ·have hres:(decide (lab.length ≤ 50) && decide (op.length ≤ 50) && decide (l.length ≤ 40) && l.all lightA)=false:=by rw [decide_eq_false (by omega)];rfl
  rw [hres]
  have e1:(50:Int) < (lab.length:Int):=by omega
  clear hres h1
  go_enter Tryz.func6, Tryz.ntmps6
  go_wp2_with fail
  go_ret
  exact ⟨rfl,(Below.refl _ _).alloc (Nat.le_refl _) _⟩
 have e1:decide ((50:Int) < (lab.length:Int))=false:=by simp;omega
 by_cases h2:50 < op.length
 ·have hres:(decide (lab.length ≤ 50) && decide (op.length ≤ 50) && decide (l.length ≤ 40) && l.all lightA)=false:=by rw [decide_eq_false (p:=op.length ≤ 50) (by omega)];simp
  rw [hres]
  have e2:(50:Int) < (op.length:Int):=by omega
  clear hres h1 h2
  go_enter Tryz.func6, Tryz.ntmps6
  go_wp2_with fail
  go_ret
  exact ⟨rfl,(Below.refl _ _).alloc (Nat.le_refl _) _⟩
 have e2:decide ((50:Int) < (op.length:Int))=false:=by simp;omega
 by_cases h3:40 < l.length
 ·have hres:(decide (lab.length ≤ 50) && decide (op.length ≤ 50) && decide (l.length ≤ 40) && l.all lightA)=false:=by rw [decide_eq_false (p:=l.length ≤ 40) (by omega)];simp
  rw [hres]
  have e3:(40:Int) < (l.length:Int):=by omega
  clear hres h1 h2 h3
  go_enter Tryz.func6, Tryz.ntmps6
  go_wp2_with fail
  go_ret
  exact ⟨rfl,(Below.refl _ _).alloc (Nat.le_refl _) _⟩
 have e3:decide ((40:Int) < (l.length:Int))=false:=by simp;omega
 rw [decide_eq_true (p:=lab.length ≤ 50) (by omega),decide_eq_true (p:=op.length ≤ 50) (by omega),decide_eq_true (p:=l.length ≤ 40) (by omega),Bool.true_and,Bool.true_and,Bool.true_and]
 have HNOT:=LH (fun k hk h=>all_not (l:=l) (p:=lightA) k hk h)
 have HTAKE:=LH (fun k hk h h1=>all_take (l:=l) (p:=lightA) k hk h h1)
 have HEND:Hid ((l.take l.length).all lightA=true → l.all lightA=true):=LH (fun h=>by rwa [List.take_length] at h)
 generalize l.all lightA=res at *
 clear h1 h2
 go_enter Tryz.func6, Tryz.ntmps6
 go_wp2_with fail
 go_loopw [3] (fun i wr=>∃ k:Nat,k ≤ l.length∧i=.int .i64 k∧(l.take k).all lightA=true∧Below (w.heap.size + 1) (w.alloc (.cells #[.string ⟨lab.toArray⟩,.bool colon,.string ⟨op.toArray⟩,.slice A l.length c] 24)) wr) (fun i _=>l.length - (intOf i).toNat)
 case atStart=>exact ⟨0,Nat.zero_le _,rfl,rfl,Below.refl _ _⟩
 case round=>
  obtain ⟨k,hk,rfl,hall,hb⟩:=hrel
  have hz:w.heap.size < wr.heap.size:=by have:=hb.size;simp at this;omega
  have b3:=box_at hb 3 _ rfl
  have hbw:Below w.heap.size w wr:=((Below.refl _ _).alloc (Nat.le_refl _) _).trans (hb.mono (by omega))
  have HALL:=LH hall
  have HB:=LH hb
  have HBW:=LH hbw
  clear hall hb
  by_cases hlt:k < l.length
  ·obtain ⟨g,o,vk,hA,hgl,c0,c1,c2,c3,c4,c5,c6,c7,hsub⟩:=(HS.out.at hbw hbw.size).get k hlt
   subst hA
   obtain ⟨sA,sc,rfl,hsc,hsm⟩:=hsub.form
   obtain ⟨k1,k2,k3⟩:=HOK.out _ (List.getElem_mem hlt)
   unfold maxLen at k1 k2
   have HL:=LH (fun o W (hW:Below (wr.alloc o).heap.size (wr.alloc o) W)=>Light_any l[k].e 30 _ W (by omega) k3 (hsub.keep (w':=W) (S':=(· < W.heap.size)) (fun p (hp:p.block < wr.heap.size)=>(hW.cell (p:=p) (by simp;omega)).trans (World.cell?_alloc_lt _ _ _ hp)) (fun g (hg:g < wr.heap.size)=>by have:=hW.size;simp at this;omega)))
   have HC:=LH (fun o W (hW:Below (wr.alloc o).heap.size (wr.alloc o) W) (hli:lightE l[k].e 30=true)=>count12_any l[k].e 30 _ W (by omega) hli (hsub.keep (w':=W) (S':=(· < W.heap.size)) (fun p (hp:p.block < wr.heap.size)=>(hW.cell (p:=p) (by simp;omega)).trans (World.cell?_alloc_lt _ _ _ hp)) (fun g (hg:g < wr.heap.size)=>by have:=hW.size;simp at this;omega)))
   have HCL:=LH (fun (hli:lightE l[k].e 30=true)=>count_le12 l[k].e 30 hli)
   have HN2:=LH (fun h=>HNOT.out k hlt h)
   have HT2:=LH (fun h=>HTAKE.out k hlt HALL.out h)
   have HDEF:Hid (lightA l[k]=(decide (l[k].w.length ≤ 50) && decide (l[k].t.length ≤ 300) && lightE l[k].e 30 && decide (countE 100 l[k].e ≤ 100))):=LH rfl
   generalize lightA l[k]=la at *
   generalize l[k]=a at *
   clear hsub hsc hsm k3 HS HOK HNOT HTAKE hbw
   by_cases t1:50 < a.w.length
   ·obtain rfl:la=false:=by rw [HDEF.out,decide_eq_false (p:=a.w.length ≤ 50) (by omega)];simp
    have hres:=HN2.out rfl
    subst hres
    have f1:(50:Int) < (a.w.length:Int):=by omega
    clear HDEF t1
    go_wp2_with fail
    go_ret
    exact ⟨rfl,HBW.out.alloc HBW.out.size _⟩
   have f1:decide ((50:Int) < (a.w.length:Int))=false:=by simp;omega
   by_cases t2:300 < a.t.length
   ·obtain rfl:la=false:=by rw [HDEF.out,decide_eq_false (p:=a.t.length ≤ 300) (by omega)];simp
    have hres:=HN2.out rfl
    subst hres
    have f2:(300:Int) < (a.t.length:Int):=by omega
    clear HDEF t1 t2
    go_wp2_with fail
    go_ret
    exact ⟨rfl,HBW.out.alloc HBW.out.size _⟩
   have f2:decide ((300:Int) < (a.t.length:Int))=false:=by simp;omega
   cases hli:lightE a.e 30 with
   | false=>
    obtain rfl:la=false:=by rw [HDEF.out,hli];simp
    have hres:=HN2.out rfl
    subst hres
    rw [hli] at HL
    clear HDEF t1 t2 hli HC HCL
    go_wp2_with fail
    refine (HL.out _ _ (Below.refl _ _)).mono ?_
    rintro e w2 ⟨rfl,hb2⟩
    go_wp2_with fail
    go_ret
    exact ⟨rfl,bthen (HBW.out.alloc HBW.out.size _) hb2⟩
   | true=>
    have hcl:=HCL.out hli
    have HC2:=LH (fun o W hW=>HC.out o W hW hli)
    rw [hli] at HL
    have HD2:=LH (show la=decide (countE 100 a.e ≤ 100) by rw [HDEF.out,hli,decide_eq_true (p:=a.w.length ≤ 50) (by omega),decide_eq_true (p:=a.t.length ≤ 300) (by omega)];simp)
    generalize countE 100 a.e=cn at *
    clear HDEF hli HC HCL t1 t2
    by_cases t3:100 < cn
    ·obtain rfl:la=false:=by rw [HD2.out,decide_eq_false (by omega)]
     have hres:=HN2.out rfl
     subst hres
     have f3:(100:Int) < (cn:Int):=by omega
     clear HD2
     go_wp2_with fail
     refine (HL.out _ _ (Below.refl _ _)).mono ?_
     rintro e w2 ⟨rfl,hb2⟩
     have x:=(hb2.block wr.heap.size (by simp)).trans (heap_alloc_new wr _)
     obtain ⟨⟨x0,x1,x2,x3,x4,x5,x6,x7⟩,_⟩:=eight x
     have BB2:=LH hb2
     clear hb2 x
     go_wp2_with fail
     refine (HC2.out _ _ BB2.out).mono ?_
     rintro e w3 ⟨rfl,hb3⟩
     go_wp2_with fail
     go_ret
     exact ⟨rfl,bthen (bthen (HBW.out.alloc HBW.out.size _) BB2.out) hb3⟩
    ·obtain rfl:la=true:=by rw [HD2.out,decide_eq_true (by omega)]
     have HT3:=LH (HT2.out rfl)
     have f3:decide ((100:Int) < (cn:Int))=false:=by simp;omega
     clear HD2 HN2 HT2
     go_wp2_with fail
     refine (HL.out _ _ (Below.refl _ _)).mono ?_
     rintro e w2 ⟨rfl,hb2⟩
     have x:=(hb2.block wr.heap.size (by simp)).trans (heap_alloc_new wr _)
     obtain ⟨⟨x0,x1,x2,x3,x4,x5,x6,x7⟩,_⟩:=eight x
     have BB2:=LH hb2
     clear hb2 x
     go_wp2_with fail
     refine (HC2.out _ _ BB2.out).mono ?_
     rintro e w3 ⟨rfl,hb3⟩
     have BX:=LH (bthen ((Below.refl wr.heap.size wr).alloc (Nat.le_refl _) _) (bthen BB2.out hb3))
     go_wp2_with fail
     go_roundw
     case rel=>exact ⟨k + 1,by omega,by go_num,HT3.out,HB.out.trans (BX.out.mono hz)⟩
     case measure=>simp [intOf];omega
  ·obtain rfl:k=l.length:=by omega
   have hres:=HEND.out HALL.out
   subst hres
   clear hbw
   go_wp2_with fail
   go_ret
   exact ⟨rfl,HBW.out⟩
theorem SubAt.fitL19 {w:World} {S:Nat → Prop} {v:Value} {sub:List Ex} (h:SubAt w S v sub):∀ d,lightL sub d=true → fitL sub=true:=by
 induction h with
 | mk A c sub vs hc hm hz hn hs ih=>
  intro d hl
  rw [lightL_all,List.all_eq_true] at hl
  have key:∀ e ∈ sub,fitE e=true:=by
   intro e he
   obtain ⟨i,hi,rfl⟩:=List.getElem_of_mem he
   have h1:=hl _ he
   have h2:=ih i hi (d - 1)
   have h3:=hn i hi
   generalize sub[i]=e at *
   obtain ⟨o,n,m,s⟩:=e
   rw [lightE_mk] at h1
   simp only [Bool.and_eq_true,decide_eq_true_eq] at h1
   simp only [Ex.op,Ex.n,Ex.name,Ex.sub] at h2 h3
   simp only [fitE,Bool.and_eq_true,decide_eq_true_eq]
   exact ⟨⟨⟨h3.1,by omega⟩,by omega⟩,h2 h1.2⟩
  clear hl ih hs hn hz hm hc
  induction sub with
  | nil=>rfl
  | cons e s ih=>
   simp only [Proofs.YtcbkglpanchhiaaGreatDoor.fitL,Bool.and_eq_true]
   exact ⟨key e (by simp),ih (fun x hx=>key x (by simp [hx]))⟩
theorem light19_fit {w:World} {S:Nat → Prop} {v:Value} {e:Ex} (h:SubAt w S v e.sub) (hok:okE e) (hl:lightE e 30=true):fitE e=true:=by
 have h2:=h.fitL19
 obtain ⟨o,n,m,s⟩:=e
 rw [lightE_mk] at hl
 simp only [Bool.and_eq_true,decide_eq_true_eq] at hl
 simp only [Ex.sub] at h2
 simp only [fitE,Bool.and_eq_true,decide_eq_true_eq]
 obtain ⟨q1,_,_⟩:=hok
 exact ⟨⟨⟨q1,by omega⟩,by omega⟩,h2 _ hl.2⟩
set_option maxRecDepth 100000 in
theorem rdeep_any (e:Ex):∀ (v:Value) (w:World),SubAt w (· < w.heap.size) v e.sub → deepE e ≤ 1000000000 →
  Calls Tryz.prog 42 #[.agg #[.string ⟨e.op.toArray⟩,.int .u16 e.n,.string ⟨e.name.toArray⟩,v]] w fun r w'=>r=.returned (.int .i64 (deepE e))∧Below w.heap.size w w':=by
 induction e using Ex.ind with
 | h o n m s ih=>
  intro v w hs hd
  have hdl:deepL s + 1 ≤ 1000000000:=by simpa [deepE] using hd
  have HD:Hid (deepE (.mk o n m s)=deepL s + 1):=LH (by simp [deepE])
  have IH:=LH ih
  dsimp only [Ex.op,Ex.n,Ex.name,Ex.sub] at hs ⊢
  obtain ⟨A,c,rfl,hc,hm⟩:=hs.form
  unfold maxLen at hm
  have HS:=LH hs
  clear hs ih hd
  generalize deepE (.mk o n m s)=de at *
  go_enter Tryz.func42, Tryz.ntmps42
  go_wp2_with fail
  go_loopw [3,4] (fun d i wr=>∃ k:Nat,k ≤ s.length∧i=.int .i64 k∧d=.int .i64 (deepL (s.take k))∧Below (w.heap.size + 1) (w.alloc (.cells #[.string ⟨o.toArray⟩,.int .u16 n,.string ⟨m.toArray⟩,.slice A s.length c] 36)) wr) (fun _ i _=>s.length - (intOf i).toNat)
  case atStart=>exact ⟨0,Nat.zero_le _,rfl,rfl,Below.refl _ _⟩
  case round=>
   obtain ⟨k,hk,rfl,rfl,hB⟩:=hrel
   have hz:w.heap.size + 1 ≤ wr.heap.size:=by have:=hB.size;simpa using this
   have hb:Below w.heap.size w wr:=((Below.refl _ _).alloc (Nat.le_refl _) _).trans (hB.mono (by omega))
   have HB:=LH hB
   have hsz:=hb.size
   have e3:=box_at hB 3 _ rfl
   have hle:=deepL_le s k
   clear hB
   by_cases hlt:k < s.length
   ·obtain ⟨g,q,vk,rfl,hg,c0,c1,c2,c3,hsub,hn,_,_⟩:=HS.out.get k hlt
    obtain ⟨vA,vc,rfl,_,_⟩:=hsub.form
    have d0:=(hb.cell (p:=⟨g,q + k * 4,none⟩) hg).trans c0
    have d1:=(hb.cell (p:=⟨g,q + k * 4 + 1,none⟩) hg).trans c1
    have d2:=(hb.cell (p:=⟨g,q + k * 4 + 2,none⟩) hg).trans c2
    have d3:=(hb.cell (p:=⟨g,q + k * 4 + 3,none⟩) hg).trans c3
    have HSK:=LH ((hsub.bel hb).more (S':=(· < wr.heap.size)) (fun x hx=>Nat.lt_of_lt_of_le hx hsz))
    have hdk:=deepE_mem s s[k] (List.getElem_mem hlt)
    have HT:=LH (deepL_take s k hlt)
    have HI:=LH (IH.out s[k] (List.getElem_mem hlt) (.slice vA s[k].sub.length vc) wr HSK.out (by omega))
    have hmx:=max_nat (deepL (s.take k)) (deepE s[k])
    generalize s[k]=ek at *
    generalize deepL (s.take k)=dk at *
    clear c0 c1 c2 c3 hsub HSK
    go_wp2_with fail
    refine HI.out.mono ?_
    rintro e0 w5 ⟨rfl,hb5⟩
    have HB6:=LH (HB.out.trans (hb5.mono hz))
    generalize deepE ek=dek at *
    clear hb5 hb
    go_wp2_with fail
    go_roundw
    case rel=>exact ⟨k + 1,by omega,by go_num,by rw [HT.out,← hmx],HB6.out⟩
    case measure=>simp [intOf];omega
   ·obtain rfl:k=s.length:=by omega
    rw [List.take_length] at hle ⊢
    have HBW:=LH hb
    clear hb
    go_wp2_with fail
    go_ret
    rw [HD.out]
    exact ⟨by rw [Int.natCast_add];rfl,HBW.out⟩
def okN (e:Ex):Prop:=e=ex0 ∨ rightE e 24=true ∨ ∃ x,e=.mk [42] 0 [] [x,.mk [35] 8 [] []]∧rightE x 24=true
theorem okN_right {d:Int} {op:List UInt8} {a:Ar} (h:rightA d op a=true):okN a.e:=by
 unfold rightA at h
 by_cases c1:a.w ≠ []
 ·rw [if_pos c1] at h
  simp only [Bool.and_eq_true] at h
  exact .inl (empty_e h.1.1.1)
 rw [if_neg c1] at h
 by_cases c2:a.is=true
 ·rw [if_pos c2] at h
  simp only [Bool.and_eq_true] at h
  exact .inl (empty_e h.1.1)
 rw [if_neg c2] at h
 by_cases c3:a.t ≠ [] ∨ (a.mem=true∧d=0) ∨ rightE a.e 24=false
 ·rw [if_pos c3] at h;cases h
 ·refine .inr (.inl ?_)
  cases hx:rightE a.e 24 with
  | true=>rfl
  | false=>exact absurd (.inr (.inr hx)) c3
theorem rt_sum {s t:St} (h:stmtRw s=(t,0)):(rightS 1 t=0 ∨ ∃ a,s.args = [a]∧s.op=sRST∧24 ≤ deepE a.e∧deepE a.e ≤ 100)∧sumN t.args=sumN s.args∧(t.label == [])=(s.label == [])∧(∀ a ∈ s.args,okN a.e)∧(∀ a ∈ t.args,okN a.e)∧s.args.length ≤ 32:=by
 have h0:rightS 0 s=0:=by
  unfold stmtRw at h
  by_cases c1:rightS 0 s ≠ 0
  ·rw [if_pos c1] at h;exact congrArg Prod.snd h
  ·exact Decidable.not_not.1 c1
 obtain ⟨_,_,_,_,_,_,r7,r8⟩:=right_parts h0
 obtain ⟨q1,q2,q3⟩:=rt_all s t h
 have hl:(t.label == [])=(s.label == []):=by
  cases ht:t.label <;> cases hs:s.label <;> rw [ht,hs] at q3 <;> first | (cases q3;done) | rfl
 have ha:∀ a ∈ s.args,okN a.e:=fun a ha=>okN_right (List.all_eq_true.1 r8 a ha)
 rcases q1 with q1 | ⟨c1,c2,c3,x,c4,c5⟩
 ·exact ⟨.inl q1,q2,hl,ha,fun a ha=>okN_right (List.all_eq_true.1 (right_parts q1).2.2.2.2.2.2.2 a ha),r7⟩
 ·obtain ⟨a,he⟩:=List.length_eq_one_iff.1 c2
  have e1:arg0 s=a.e:=by unfold arg0;rw [he];rfl
  rw [e1] at c3
  have hd:deepE a.e ≤ 100:=by
   rcases ha a (by rw [he];simp) with k | k | ⟨y,k,hk⟩
   ·rw [k];decide
   ·exact Nat.le_trans (right_deep _ _ k) (by decide)
   ·rw [k]
    have:=right_deep _ _ hk
    simp only [deepE,deepL]
    omega
  refine ⟨.inr ⟨a,he,c1,c3,hd⟩,q2,hl,ha,fun b hb=>?_,r7⟩
  rw [c5] at hb
  rw [List.mem_singleton.1 hb]
  show okN (eightE x)
  obtain ⟨z1,_⟩:=eight_all x c4
  unfold eightE at *
  by_cases ho:x.op = [35]
  ·rw [if_pos ho] at *
   refine .inr (.inl ?_)
   obtain ⟨o,n,m,s⟩:=x
   have ho:o = [35]:=ho
   subst ho
   simp only [rightE,headE,Bool.and_eq_true,Ex.n,Ex.name,Ex.sub] at c4 ⊢
   simpa using c4
  ·rw [if_neg ho]
   exact .inr (.inr ⟨x,rfl,c4⟩)
theorem okN_len {e:Ex} (h:okN e):(namesE e).length ≤ 16777216:=by
 rcases h with rfl | h | ⟨x,rfl,h⟩
 ·rw [names_ex0];simp
 ·exact Nat.le_trans (names_len e 24 h) (by decide)
 ·have:=names_len x 24 h
  have e1:namesE (.mk [42] 0 [] [x,.mk [35] 8 [] []])=namesE x:=by simp [namesE,namesL]
  rw [e1]
  exact Nat.le_trans this (by decide)
theorem namesN_any (e:Ex) (h:okN e) (v:Value) (w:World) (hs:SubAt w (· < w.heap.size) v e.sub) :
  Calls Tryz.prog 11 #[exV e v] w fun r w'=>∃ A c,r=.returned (.slice A (namesE e).length c)∧Below w.heap.size w w':=by
 have key:∀ {n:Nat} {r:Ending} {w':World} {l:List (List UInt8)},(∃ v',r=.returned v'∧Rd w' w'.heap.size v' n (l.map strV)∧Below w.heap.size w w') → ∃ A c,r=.returned (.slice A n c)∧Below w.heap.size w w':=by
  rintro n r w' l ⟨v',rfl,hrd,hb⟩
  obtain ⟨A,c,rfl,_⟩:=hrd.form
  exact ⟨A,c,rfl,hb⟩
 unfold exV
 rcases h with rfl | h | ⟨x,rfl,h⟩
 ·exact (rnames_node [] 0 [] [] (by decide) 24 (by omega) (by simp) (by simp [namesL]) (by simp) v w hs).mono fun r w' hr=>key hr
 ·exact (RNames_any e 24 v w (by omega) h hs).mono fun r w' hr=>key hr
 ·have e1:namesE (.mk [42] 0 [] [x,.mk [35] 8 [] []])=namesL [x,.mk [35] 8 [] []]:=by simp [namesE,namesL]
  have hl:=names_len x 24 h
  have e2:namesL [x,.mk [35] 8 [] []]=namesE x:=by simp [namesE,namesL]
  rw [e1]
  refine (rnames_node [42] 0 [] [x,.mk [35] 8 [] []] (by decide) 24 (by omega) ?_ (by rw [e2];omega) (fun x _=>RNames_any x) v w hs).mono fun r w' hr=>key hr
  intro y hy
  rcases List.mem_cons.1 hy with rfl | hy
  ·exact h
  ·rw [List.mem_singleton.1 hy];decide
set_option maxRecDepth 100000 in
theorem ldeep_any (lab:List UInt8) (colon:Bool) (a:Ar) (v:Value) (w:World) (hs:ArAt w (· < w.heap.size) v [a]) (hd:24 ≤ deepE a.e) (hd2:deepE a.e ≤ 100) :
  Calls Tryz.prog 13 #[.agg #[.string ⟨lab.toArray⟩,.bool colon,.string ⟨#[82,83,84]⟩,v]] w fun r w'=>r=.returned (.bool true)∧Below w.heap.size w w':=by
 obtain ⟨A,c,rfl,hc,_⟩:=hs.form
 obtain ⟨g,o,vk,rfl,hg,_,_,_,_,c4,c5,c6,c7,hsub⟩:=ArAt.get (l:=[a]) hs 0 Nat.one_pos
 rw [show ([a]:List Ar).length=1 from rfl] at *
 simp only [List.getElem_cons_zero,Nat.zero_mul,Nat.add_zero] at c4 c5 c6 c7 hsub
 obtain ⟨sA,sc,rfl,_,_⟩:=hsub.form
 have ld:∀ {i:Nat} {u:Value} (ob:Obj),w.cell? ⟨g,i,none⟩=some u → (w.alloc ob).cell? ⟨g,i,none⟩=some u:=fun ob h=>(World.cell?_alloc_lt _ _ ⟨g,_,none⟩ hg).trans h
 have HD:=LH (fun ob=>rdeep_any a.e (.slice sA a.e.sub.length sc) (w.alloc ob) (hsub.keep (fun p hp=>World.cell?_alloc_lt _ _ _ hp) (fun g (hg:g < w.heap.size)=>by simp;omega)) (by omega))
 have BB:=LH (fun ob=>(Below.refl w.heap.size w).alloc (Nat.le_refl _) ob)
 have d4:=ld (.cells #[.string ⟨lab.toArray⟩,.bool colon,.string ⟨#[82,83,84]⟩,.slice (some ⟨g,o,none⟩) 1 c] 24) c4
 have d5:=ld (.cells #[.string ⟨lab.toArray⟩,.bool colon,.string ⟨#[82,83,84]⟩,.slice (some ⟨g,o,none⟩) 1 c] 24) c5
 have d6:=ld (.cells #[.string ⟨lab.toArray⟩,.bool colon,.string ⟨#[82,83,84]⟩,.slice (some ⟨g,o,none⟩) 1 c] 24) c6
 have d7:=ld (.cells #[.string ⟨lab.toArray⟩,.bool colon,.string ⟨#[82,83,84]⟩,.slice (some ⟨g,o,none⟩) 1 c] 24) c7
 clear hs hsub ld c4 c5 c6 c7
 generalize deepE a.e=de at *
 obtain ⟨a1,a2,a3,a4,e⟩:=a
 simp only at *
 go_enter Tryz.func13, Tryz.ntmps13
 go_wp2_with fail
 refine (HD.out _).mono ?_
 rintro r w1 ⟨rfl,hb1⟩
 have HB:=LH (bthen (BB.out _) hb1)
 have hge:decide ((24:Int) ≤ (de:Int))=true:=by simp;omega
 clear hb1
 go_wp2_with fail
 go_ret
 exact ⟨rfl,HB.out⟩
theorem light_fitS {w:World} {S:Nat → Prop} {v:Value} {s:St} (h:ArAt w S v s.args) (hok:okS s) (hl:light12 s=true):fitS s:=by
 obtain ⟨A,c,vs,_,_,_,_,h5⟩:=h
 unfold light12 at hl
 simp only [Bool.and_eq_true,decide_eq_true_eq,List.all_eq_true] at hl
 obtain ⟨⟨⟨l1,l2⟩,l3⟩,l4⟩:=hl
 refine ⟨by omega,by omega,fun a ha=>?_⟩
 have h6:=l4 a ha
 unfold lightA at h6
 simp only [Bool.and_eq_true,decide_eq_true_eq] at h6
 refine ⟨by omega,by omega,?_⟩
 obtain ⟨i,hi,rfl⟩:=List.getElem_of_mem ha
 exact light19_fit (h5 i hi) (hok.2.2 _ ha).2.2 h6.1.2
theorem sum_take (l:List Ar) (k:Nat) (hk:k < l.length):sumN (l.take (k + 1))=sumN (l.take k) + (namesE l[k].e).length:=by
 have e1:∀ a b:List Ar,sumN (a ++ b)=sumN a + sumN b:=fun a b=>by unfold sumN;rw [List.map_append,List.sum_append]
 rw [List.take_succ_eq_append_getElem hk,e1]
 simp [sumN]
theorem sum_le (l:List Ar) (h:∀ a ∈ l,okN a.e):sumN l ≤ l.length * 16777216:=by
 induction l with
 | nil=>simp [sumN]
 | cons a r ih=>
  have h1:=okN_len (h a (by simp))
  have h2:=ih (fun b hb=>h b (by simp [hb]))
  have es:sumN (a :: r)=(namesE a.e).length + sumN r:=by simp [sumN]
  rw [es,List.length_cons]
  omega
theorem sum_part (l:List Ar) (k:Nat):sumN (l.take k) ≤ sumN l:=by
 have:sumN l=sumN (l.take k) + sumN (l.drop k):=by
  unfold sumN
  rw [← List.sum_append,← List.map_append,List.take_append_drop]
 omega
theorem law19_bad (s:St) (v:Value) (w:World) (hg:GWL w) (hs:ArAt w (· < w.heap.size) v s.args) (hok:okS s) (hl:light12 s=false) :
  Calls Tryz.prog 4 #[stV s v] w fun r w'=>r=.returned (.bool true)∧Below w.heap.size w w':=by
 have HAl:=LH (fun W (hW:Below w.heap.size w W)=>alive19_any W (hg.below hW))
 have HLI:=LH (fun o=>light12_any s v (w.alloc o) hok (hs.keep (fun p hp=>World.cell?_alloc_lt _ _ _ hp) (fun g (hg:g < w.heap.size)=>by simp;omega)))
 have B2:=LH (fun o1=>((Below.refl w.heap.size w).alloc (Nat.le_refl _) o1))
 rw [hl] at HLI
 obtain ⟨A,c,rfl,hc,hm⟩:=hs.form
 clear hl hs
 unfold stV at *
 go_enter Tryz.func4, Tryz.ntmps4
 go_wp2_with fail
 refine (HLI.out _).mono ?_
 rintro r w1 ⟨rfl,hb1⟩
 have B3:=LH (bthen (B2.out _) hb1)
 clear hb1
 go_wp2_with fail
 refine (HAl.out _ B3.out).mono ?_
 rintro r w2 ⟨rfl,hb2⟩
 go_wp2_with fail
 go_ret
 exact ⟨rfl,bthen B3.out hb2⟩
set_option maxRecDepth 100000 in
theorem law19_fail (s:St) (v:Value) (w:World) (hg:GWL w) (hs:ArAt w (· < w.heap.size) v s.args) (hok:okS s) (hl:light12 s=true) (k:Nat) (hk:k ≠ 0) (he:stmtRw s=(st0,k)) :
  Calls Tryz.prog 4 #[stV s v] w fun r w'=>r=.returned (.bool true)∧Below w.heap.size w w':=by
 have HAl:=LH (fun W (hW:Below w.heap.size w W)=>alive19_any W (hg.below hW))
 have HLI:=LH (fun o=>light12_any s v (w.alloc o) hok (hs.keep (fun p hp=>World.cell?_alloc_lt _ _ _ hp) (fun g (hg:g < w.heap.size)=>by simp;omega)))
 have B2:=LH (fun o1=>((Below.refl w.heap.size w).alloc (Nat.le_refl _) o1))
 have HA:=LH (fun W (hW:Below w.heap.size w W)=>wstmt_any s v W (hg.below hW) (light_fitS hs hok hl) (hs.at hW hW.size))
 rw [hl] at HLI
 rw [he] at HA
 have hk2:((k:Int) != 0)=true:=by simp;omega
 obtain ⟨A,c,rfl,hc,hm⟩:=hs.form
 have OB:=LH (heap_alloc_new w (.cells #[.string ⟨s.label.toArray⟩,.bool s.colon,.string ⟨s.op.toArray⟩,.slice A s.args.length c] 24))
 clear hl hs hk he
 unfold stV StmtP at *
 go_enter Tryz.func4, Tryz.ntmps4
 go_wp2_with fail
 refine (HLI.out _).mono ?_
 rintro r w1 ⟨rfl,hb1⟩
 have B3:=LH (bthen (B2.out _) hb1)
 have O1:=LH ((hb1.block w.heap.size (by simp)).trans OB.out)
 obtain ⟨⟨x0,x1,x2,x3⟩,_⟩:=four O1.out
 clear hb1 HLI
 go_wp2_with fail
 refine (HA.out _ B3.out).mono ?_
 rintro r w2 ⟨u,rfl,hsu,hb2⟩
 have B4:=LH (bthen B3.out hb2)
 obtain ⟨uA,uc,rfl,_,_⟩:=hsu.form
 have B5:=LH (fun o=>(B4.out.alloc B4.out.size o:Below w.heap.size w (w2.alloc o)))
 have HSM:=LH (fun W (h:ArAt W (· < W.heap.size) (.slice uA 0 uc) [])=>refSame12_eq st0 (.slice uA 0 uc) (.slice none 0 0) W h (ArAt.nil _ _))
 have HSU:=LH (fun o=>(hsu.keep (S':=(· < (w2.alloc o).heap.size)) (fun p hp=>World.cell?_alloc_lt _ _ _ hp) (fun g (hg:g < w2.heap.size)=>by simp;omega):ArAt (w2.alloc o) _ _ _))
 unfold stV at HSM
 simp only [st0] at HSM HSU ⊢
 clear hb2 hsu HA
 go_wp2_with fail
 refine (HSM.out _ (HSU.out _)).mono ?_
 rintro r w3 ⟨rfl,hb3⟩
 have B6:=LH (bthen (B5.out _) hb3)
 clear hb3
 go_wp2_with fail
 refine (HAl.out _ B6.out).mono ?_
 rintro r w4 ⟨rfl,hb4⟩
 go_wp2_with fail
 go_ret
 exact ⟨rfl,bthen B6.out hb4⟩
set_option maxRecDepth 100000 in
theorem law19_good (s t:St) (v:Value) (w:World) (hg:GWL w) (hs:ArAt w (· < w.heap.size) v s.args) (hok:okS s) (hl:light12 s=true) (he:stmtRw s=(t,0)) :
  Calls Tryz.prog 4 #[stV s v] w fun r w'=>r=.returned (.bool true)∧Below w.heap.size w w':=by
 have hfit:=light_fitS hs hok hl
 have hft:fitS t:=by have:=stmt_fit s hfit;rw [he] at this;exact this
 obtain ⟨p1,p2,p3,p4,p5,p6⟩:=rt_sum he
 have ps:=Nat.le_trans (sum_le s.args p4) (Nat.mul_le_mul_right 16777216 p6)
 have pt:=p2 ▸ ps
 have HAl:=LH (fun W (hW:Below w.heap.size w W)=>alive19_any W (hg.below hW))
 have HLI:=LH (fun o=>light12_any s v (w.alloc o) hok (hs.keep (fun p hp=>World.cell?_alloc_lt _ _ _ hp) (fun g (hg:g < w.heap.size)=>by simp;omega)))
 have B2:=LH (fun o1=>((Below.refl w.heap.size w).alloc (Nat.le_refl _) o1))
 have HA:=LH (fun W (hW:Below w.heap.size w W)=>wstmt_any s v W (hg.below hW) hfit (hs.at hW hW.size))
 rw [hl] at HLI
 rw [he] at HA
 obtain ⟨A,c,rfl,hc,hm⟩:=hs.form
 have HS0:=LH hs
 have OB:=LH (heap_alloc_new w (.cells #[.string ⟨s.label.toArray⟩,.bool s.colon,.string ⟨s.op.toArray⟩,.slice A s.args.length c] 24))
 have HDP:Hid (rightS 1 t ≠ 0 → ∀ W,Below w.heap.size w W → Calls Tryz.prog 13 #[.agg #[.string ⟨s.label.toArray⟩,.bool s.colon,.string ⟨s.op.toArray⟩,.slice A s.args.length c]] W fun r w'=>r=.returned (.bool true)∧Below W.heap.size W w'):=LH (fun hne W hW=>by
  rcases p1 with p1 | ⟨a,q1,q2,q3,q4⟩
  ·exact absurd p1 hne
  ·have h2:=hs.at hW hW.size
   rw [q1] at h2 ⊢
   rw [q2]
   exact ldeep_any s.label s.colon a _ W h2 q3 q4)
 have HN1:=LH p4
 have HN2:=LH p5
 have HFT:=LH hft
 have hlab:∃ bl,(s.label == [])=bl∧(t.label == [])=bl:=⟨_,rfl,p3⟩
 obtain ⟨bl,hb1',hb2'⟩:=hlab
 have hbl:(bl == bl)=true:=by simp
 unfold maxLen at hm
 clear hl hs he hfit hft hok p1 p3 p4 p5 p6 hc
 unfold stV StmtP at *
 go_enter Tryz.func4, Tryz.ntmps4
 go_wp2_with fail
 refine (HLI.out _).mono ?_
 rintro r w1 ⟨rfl,hb1⟩
 have B3:=LH (bthen (B2.out _) hb1)
 have O1:=LH ((hb1.block w.heap.size (by simp)).trans OB.out)
 obtain ⟨⟨x0,x1,x2,x3⟩,_⟩:=four O1.out
 clear hb1 HLI
 go_wp2_with fail
 refine (HA.out _ B3.out).mono ?_
 rintro r w2 ⟨u,rfl,hsu,hb2⟩
 simp only at hsu ⊢
 simp only [show ((0:Nat):Int)=0 from rfl,stV]
 obtain ⟨uA,uc,rfl,_,hum⟩:=hsu.form
 unfold maxLen at hum
 have B4:=LH (bthen B3.out hb2)
 have hw2:w.heap.size < w2.heap.size:=Nat.lt_of_lt_of_le (loh O1.out) hb2.size
 have O2:=LH ((hb2.block w.heap.size (loh O1.out)).trans O1.out)
 obtain ⟨w3,hw3⟩:∃ w3,w3=w2.alloc (.cells #[.string ⟨t.label.toArray⟩,.bool t.colon,.string ⟨t.op.toArray⟩,.slice uA t.args.length uc] 24):=⟨_,rfl⟩
 have B5:Hid (Below w.heap.size w w3):=LH (by rw [hw3];exact B4.out.alloc B4.out.size _)
 have z3:w3.heap.size=w2.heap.size + 1:=by rw [hw3];simp
 have O3:Hid (w3.heap[w.heap.size]? = some (.cells #[.string ⟨s.label.toArray⟩,.bool s.colon,.string ⟨s.op.toArray⟩,.slice A s.args.length c] 24 (0,0))):=LH (by rw [hw3];exact (Below.heap_alloc _ _ w.heap.size hw2).trans O2.out)
 have P3:Hid (w3.heap[w2.heap.size]? = some (.cells #[.string ⟨t.label.toArray⟩,.bool t.colon,.string ⟨t.op.toArray⟩,.slice uA t.args.length uc] 24 (0,0))):=LH (by rw [hw3];exact heap_alloc_new w2 _)
 have HS:Hid (ArAt w3 (· < w3.heap.size) (.slice A s.args.length c) s.args):=LH (HS0.out.at B5.out B5.out.size)
 have HT:Hid (ArAt w3 (· < w3.heap.size) (.slice uA t.args.length uc) t.args):=LH (by rw [hw3];exact hsu.keep (fun p hp=>World.cell?_alloc_lt _ _ _ hp) (fun g (hg:g < w2.heap.size)=>by simp;omega))
 obtain ⟨⟨y0,y1,y2,y3⟩,_⟩:=four P3.out
 obtain ⟨⟨x0',x1',x2',x3'⟩,_⟩:=four O3.out
 clear hb2 hsu HA HS0 x0 x1 x2 x3
 go_wp2_with fail
 simp only [← hw3]
 clear hw3
 go_loopw [5,7] (fun n i wr=>∃ k:Nat,k ≤ s.args.length∧i=.int .i64 k∧n=.int .i64 (sumN (s.args.take k))∧Below w3.heap.size w3 wr) (fun _ i _=>s.args.length - (intOf i).toNat)
 case atStart=>exact ⟨0,Nat.zero_le _,rfl,rfl,Below.refl _ _⟩
 case round=>
  obtain ⟨k,hk,rfl,rfl,hb⟩:=hrel
  have HB:=LH hb
  have hsz:=hb.size
  have O4:=LH ((hb.block w.heap.size (by omega)).trans O3.out)
  obtain ⟨⟨a0,a1,a2,a3⟩,_⟩:=four O4.out
  by_cases hlt:k < s.args.length
  ·obtain ⟨g,o,vk,hA,hgl,_,_,_,_,c4,c5,c6,c7,hsub⟩:=(HS.out.at hb hb.size).get k hlt
   subst hA
   obtain ⟨sA,sc,rfl,_,_⟩:=hsub.form
   have HC:=LH (namesN_any s.args[k].e (HN1.out _ (List.getElem_mem hlt)) _ wr hsub)
   have hl1:=okN_len (HN1.out _ (List.getElem_mem hlt))
   have HT1:=LH (sum_take s.args k hlt)
   have hl2:=Nat.le_trans (sum_part s.args k) ps
   unfold exV at HC
   generalize (namesE s.args[k].e).length=nl at *
   generalize sumN (s.args.take k)=sk at *
   clear hb hsub
   go_wp2_with fail
   refine HC.out.mono ?_
   rintro r w5 ⟨A5,c5',rfl,hb5⟩
   have HB6:=LH (bthen HB.out hb5)
   clear hb5
   go_wp2_with fail
   go_roundw
   case rel=>exact ⟨k + 1,by omega,by go_num,by rw [HT1.out];go_num,HB6.out⟩
   case measure=>simp [intOf];omega
  ·obtain rfl:k=s.args.length:=by omega
   rw [List.take_length]
   have d1:decide ((s.args.length:Int) < (s.args.length:Int))=false:=by simp
   clear hb hlt
   generalize sumN s.args=N at *
   go_wp2_with fail
   go_loopw [6,8] (fun n i wr=>∃ k:Nat,k ≤ t.args.length∧i=.int .i64 k∧n=.int .i64 (sumN (t.args.take k))∧Below w3.heap.size w3 wr) (fun _ i _=>t.args.length - (intOf i).toNat)
   case atStart=>exact ⟨0,Nat.zero_le _,rfl,rfl,HB.out⟩
   case round=>
    clear a0 a1 a2 a3 O4 hsz HB
    obtain ⟨k,hk,rfl,rfl,hb⟩:=hrel
    have HB:=LH hb
    have hsz:=hb.size
    have O4:=LH ((hb.block w.heap.size (by omega)).trans O3.out)
    have P4:=LH ((hb.block w2.heap.size (by omega)).trans P3.out)
    obtain ⟨⟨a0,a1,a2,a3⟩,_⟩:=four O4.out
    obtain ⟨⟨b0,b1,b2,b3⟩,_⟩:=four P4.out
    by_cases hlt:k < t.args.length
    ·obtain ⟨g,o,vk,hA,hgl,_,_,_,_,c4,c5,c6,c7,hsub⟩:=(HT.out.at hb hb.size).get k hlt
     subst hA
     obtain ⟨sA,sc,rfl,_,_⟩:=hsub.form
     have HC:=LH (namesN_any t.args[k].e (HN2.out _ (List.getElem_mem hlt)) _ wr hsub)
     have hl1:=okN_len (HN2.out _ (List.getElem_mem hlt))
     have HT1:=LH (sum_take t.args k hlt)
     have hl2:=Nat.le_trans (sum_part t.args k) pt
     unfold exV at HC
     generalize (namesE t.args[k].e).length=nl at *
     generalize sumN (t.args.take k)=sk at *
     clear hb hsub
     go_wp2_with fail
     refine HC.out.mono ?_
     rintro r w5 ⟨A5,c5',rfl,hb5⟩
     have HB6:=LH (bthen HB.out hb5)
     clear hb5
     go_wp2_with fail
     go_roundw
     case rel=>exact ⟨k + 1,by omega,by go_num,by rw [HT1.out];go_num,HB6.out⟩
     case measure=>simp [intOf];omega
    ·obtain rfl:k=t.args.length:=by omega
     rw [List.take_length,p2]
     have HR:=LH (Right12_any 1 t (.slice uA t.args.length uc) wr (hg.below (B5.out.trans (HB.out.mono (by omega)))) HFT.out (HT.out.at hb hb.size))
     have d2:decide ((t.args.length:Int) < (t.args.length:Int))=false:=by simp
     have d3:((N:Int) == (N:Int))=true:=by simp
     have BW:=LH (B5.out.trans (HB.out.mono (by omega:w.heap.size ≤ w3.heap.size)))
     unfold stV at HR
     clear hb hlt HN1 HN2 HFT HS HT
     by_cases hr:rightS 1 t=0
     ·rw [hr] at HR
      clear HDP hr
      go_wp2_with fail
      refine HR.out.mono ?_
      rintro r w5 ⟨rfl,hb5⟩
      have B7:=LH (bthen BW.out hb5)
      have O5:=LH ((hb5.block w.heap.size (by omega)).trans O4.out)
      have P5:=LH ((hb5.block w2.heap.size (by omega)).trans P4.out)
      clear a0 a1 a2 a3 b0 b1 b2 b3 hb5
      obtain ⟨⟨a0,a1,a2,a3⟩,_⟩:=four O5.out
      obtain ⟨⟨b0,b1,b2,b3⟩,_⟩:=four P5.out
      go_wp2_with fail
      refine (HAl.out _ B7.out).mono ?_
      rintro r w6 ⟨rfl,hb6⟩
      go_wp2_with fail
      go_ret
      exact ⟨rfl,bthen B7.out hb6⟩
     ·have HDP2:=LH (HDP.out hr)
      have hr2:((rightS 1 t:Int) == 0)=false:=by simp;omega
      generalize rightS 1 t=rs at *
      clear HDP hr
      go_wp2_with fail
      refine HR.out.mono ?_
      rintro r w5 ⟨rfl,hb5⟩
      have B7:=LH (bthen BW.out hb5)
      have O5:=LH ((hb5.block w.heap.size (by omega)).trans O4.out)
      have P5:=LH ((hb5.block w2.heap.size (by omega)).trans P4.out)
      clear a0 a1 a2 a3 b0 b1 b2 b3 hb5
      obtain ⟨⟨a0,a1,a2,a3⟩,_⟩:=four O5.out
      obtain ⟨⟨b0,b1,b2,b3⟩,_⟩:=four P5.out
      go_wp2_with fail
      refine (HDP2.out _ B7.out).mono ?_
      rintro r w6 ⟨rfl,hb6⟩
      have B8:=LH (bthen B7.out hb6)
      have zz:=loh P5.out
      have O6:=LH ((hb6.block w.heap.size (by omega)).trans O5.out)
      have P6:=LH ((hb6.block w2.heap.size zz).trans P5.out)
      clear a0 a1 a2 a3 b0 b1 b2 b3 hb6
      obtain ⟨⟨a0,a1,a2,a3⟩,_⟩:=four O6.out
      obtain ⟨⟨b0,b1,b2,b3⟩,_⟩:=four P6.out
      go_wp2_with fail
      refine (HAl.out _ B8.out).mono ?_
      rintro r w7 ⟨rfl,hb7⟩
      go_wp2_with fail
      go_ret
      exact ⟨rfl,bthen B8.out hb7⟩
theorem rewriteRight_walk (s:St) (v:Value) (w:World) (hg:GWL w) (hs:ArAt w (· < w.heap.size) v s.args) (hok:okS s) :
  Calls Tryz.prog 4 #[stV s v] w fun r w'=>r=.returned (.bool true)∧Below w.heap.size w w':=by
 cases hl:light12 s with
 | false=>exact law19_bad s v w hg hs hok hl
 | true=>
  by_cases hk:(stmtRw s).2=0
  ·exact law19_good s (stmtRw s).1 v w hg hs hok hl (Prod.ext rfl hk)
  ·exact law19_fail s v w hg hs hok hl _ hk (Prod.ext (rt_fail s hk) rfl)
end Go.Proofs.YtcbkglpanchhiaaGreatDoor
