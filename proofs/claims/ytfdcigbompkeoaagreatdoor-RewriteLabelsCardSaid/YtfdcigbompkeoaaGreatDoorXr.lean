/- Xr. -/
import Derived.Test.YtfdcigbompkeoaaGreatDoorXa
import Derived.Test.YtfdcigbompkeoaaGreatDoorXo
import Derived.Test.YtfdcigbompkeoaaGreatDoorXq
namespace Go.Proofs.YtfdcigbompkeoaaGreatDoor
theorem trim_cases (s:List UInt8):trimU s=s ∨ ∃ r,s=r++[95]:=by
 unfold trimU
 rcases List.eq_nil_or_concat s with rfl | ⟨r,c,rfl⟩
 ·exact .inl rfl
 ·rw [List.concat_eq_append]
  by_cases hc:c=95
  ·exact .inr ⟨r,by rw [hc]⟩
  ·left
   rw [List.reverse_append,List.reverse_singleton,List.singleton_append,List.dropWhile_cons]
   simp [hc]
theorem res_mark (r:List UInt8):resB 1 (r++[95])=false:=by
 unfold resB
 rw [if_neg (by decide),if_pos rfl,decide_eq_false_iff_not]
 intro h
 have h2:∀ x∈zilogW,x.getLast?≠some 95:=by decide
 exact h2 _ h (by simp)
theorem sets_mark (r:List UInt8):setsB (r++[95])=false:=by
 unfold setsB
 rw [decide_eq_false_iff_not]
 intro h
 have h2:∀ x∈[sEQU,sSET],x.getLast?≠some 95:=by decide
 exact h2 _ h (by simp)
theorem name_mark (s:List UInt8) (h:nameB s=true) (hl:s.length<16):nameB (s++[95])=true:=by
 unfold nameB at *
 simp only [Bool.and_eq_true,decide_eq_true_eq,List.all_eq_true,Bool.or_eq_true] at *
 obtain ⟨⟨⟨h1,h2⟩,h3⟩,h4⟩:=h
 refine ⟨⟨⟨by simp,by simp;omega⟩,?_⟩,?_⟩
 ·cases s with
  | nil=>simp at h1
  | cons a r=>exact h3
 ·intro c hc
  rcases List.mem_append.1 hc with h5 | h5
  ·exact h4 c h5
  ·have:c=95:=by simpa using h5
   subst this
   exact .inl (by decide)
theorem ren_plain {m:List UInt8} (h:plainB 0 m=true) (h2:(renA m).2=0):plainB 1 (renA m).1=true:=by
 unfold plainB at h
 simp only [Bool.and_eq_true,Bool.not_eq_true'] at h
 obtain ⟨⟨hg,hr⟩,hs⟩:=h
 unfold renA at *
 unfold plainB
 by_cases c:resB 1 (trimU m)=false∨resB 0 (trimU m)=true
 ·rw [if_pos c]
  simp only [hg,hs,Bool.not_false,Bool.and_true,Bool.true_and,Bool.not_eq_true']
  rcases trim_cases m with e | ⟨r,e⟩
  ·rw [e] at c
   rcases c with c | c
   ·exact c
   ·rw [hr] at c;cases c
  ·rw [e];exact res_mark r
 ·rw [if_neg c] at h2 ⊢
  by_cases cl:16<=m.length
  ·rw [if_pos cl] at h2;cases h2
  ·rw [if_neg cl]
   simp only [res_mark,sets_mark,Bool.not_false,Bool.and_true]
   unfold greatB at *
   simp only [Bool.and_eq_true,beq_iff_eq] at *
   exact ⟨name_mark m hg.1 (by omega),by rw [upper_append,hg.2];rfl⟩
theorem right_of {d:Int} {s:St} (h1:knownB d=true) (h2:s.label≠[]->plainB d s.label=true) (h3:s.op = []->s.args = []) (h4:s.op≠[]->greatB s.op=true)
  (h5:setsB s.op=true->s.label≠[]) (h6:s.colon=(!s.label.isEmpty && !setsB s.op)) (h7:s.args.length<=32) (h8:s.args.all (rightA d s.op)=true):rightS d s=0:=by
 unfold rightS
 rw [if_neg (by rw [h1];decide),if_neg,if_neg,if_neg,if_neg (by rw [h8];decide)]
 ·rintro (⟨g1,g2⟩ | g | g)
  ·exact h5 g1 g2
  ·exact g h6
  ·omega
 ·rintro (⟨g1,g2⟩ | ⟨g1,g2⟩)
  ·exact g2 (h3 g1)
  ·rw [h4 g1] at g2;cases g2
 ·rintro ⟨g1,g2⟩
  rw [h2 g1] at g2;cases g2
theorem parse_toks {d:Int} {s:St} (h:rightS d s=0) (hf:∀ a∈s.args,fitE a.e=true) (hl:(textS d s).length<=200) {l:List UInt8} (ht:Toks l (toksS d s)) (hll:l.length<=200):parseS d l=(s,0):=by
 have e1:=parse_text d s h hf hl
 have e2:=toks_lineL _ _ (text_toks d s (rightS.form h) hf) hl
 have e3:=toks_lineL _ _ ht hll
 unfold parseS at *
 rw [e3]
 rw [e2] at e1
 exact e1
theorem span_tl (R:List UInt8) (hR:Tl R):∀ p:List UInt8,(∀ x∈p,tailB x=true)->spanL tailB (p++R)=p.length:=by
 intro p
 induction p with
 | nil=>
  intro _
  rcases hR with rfl | ⟨x,r,rfl,h,_⟩
  ·rfl
  ·simp [spanL,h]
 | cons c r ih=>
  intro h
  have h1:=h c (by simp)
  simp [spanL,h1,ih (fun x hx=>h x (by simp [hx]))]
theorem toks_low (p R:List UInt8) (us:List Tok) (h1:letB (p.headD 0)=true) (h2:∀ x∈p,tailB x=true) (h3:p.length<=16) (h4:p.headD 0≠32/\p.headD 0≠9/\p.headD 0≠59) (h0:p≠[]) (hR:Tl R) (hT:Toks R us):Toks (p++R) ((1,upper p,0) :: us):=by
 obtain ⟨c,r,rfl⟩:∃ c r,p=c :: r:=by
  cases p with
  | nil=>exact absurd rfl h0
  | cons c r=>exact ⟨c,r,rfl⟩
 have hs:=span_tl R hR (c :: r) h2
 have e:firstT (c :: r++R)=((1,upper (c :: r),0),(c :: r).length,0):=by
  have h1:letB c=true:=h1
  unfold firstT
  simp only [show (c :: r++R).headD 0=c from rfl,h1,hs,if_true]
  rw [if_neg (by omega),List.take_left' rfl]
 have ht:=Toks.tok c (r++R) us h4.1 h4.2.1 h4.2.2 (by rw [← List.cons_append,e]) (by rw [← List.cons_append,e];simpa using hT)
 rw [← List.cons_append,e] at ht
 exact ht
abbrev sJMP:List UInt8:=[74,77,80]
abbrev sLXI:List UInt8:=[76,88,73]
def nE (m:List UInt8):Ex:=.mk sN 0 m []
def n1E (m:List UInt8):Ex:=.mk [43] 0 [] [.mk sN 0 m [],.mk sNum 1 [] []]
def aE (e:Ex):Ar:=⟨[],[],false,false,e⟩
def sA1 (m:List UInt8):St:=⟨m,false,sEQU,[aE (.mk sNum 5 [] [])]⟩
def sA2 (m:List UInt8):St:=⟨[],false,sLXI,[⟨[72],[],false,false,ex0⟩,aE (n1E m)]⟩
def sB1 (m:List UInt8):St:=⟨m,true,sJMP,[aE (nE m)]⟩
def sC1 (m:List UInt8):St:=⟨m,false,sSET,[aE (.mk sNum 1 [] [])]⟩
def sC2 (m:List UInt8):St:=⟨m,false,sSET,[aE (n1E m)]⟩
def sC3 (m:List UInt8):St:=⟨[],false,sDW,[aE (nE m)]⟩
theorem plain_facts {d:Int} {m:List UInt8} (h:plainB d m=true):greatB m=true/\nameB m=true/\upper m=m/\1<=m.length/\resB d m=false/\setsB m=false:=by
 unfold plainB at h
 simp only [Bool.and_eq_true,Bool.not_eq_true'] at h
 have hg:=h.1.1
 unfold greatB at hg
 simp only [Bool.and_eq_true,beq_iff_eq] at hg
 refine ⟨h.1.1,hg.1,hg.2,?_,h.1.2,h.2⟩
 have:=hg.1
 unfold nameB at this
 simp only [Bool.and_eq_true,decide_eq_true_eq] at this
 exact this.1.1.1
theorem word_res:∀ o∈opW,resB 0 o=true/\resB 1 o=true:=by decide
theorem plain_nE {d:Int} (hd:d=0∨d=1) {m:List UInt8} (h:plainB d m=true) (k:Nat):rightE (nE m) (k+1)=true/\rightE (n1E m) (k+2)=true:=by
 obtain ⟨_,h2,h3,_,h5,_⟩:=plain_facts h
 have hw:wordE m=false:=by
  unfold wordE
  rw [decide_eq_false_iff_not]
  intro hm
  have:m∈opW:=by unfold opW;simpa using hm
  have h6:=word_res m this
  rcases hd with rfl | rfl
  ·rw [h6.1] at h5;cases h5
  ·rw [h6.2] at h5;cases h5
 have hh:headE sN 0 m 0=true:=by
  unfold headE
  rw [if_pos rfl,h2,h3,hw]
  simp [bindsE]
 refine ⟨?_,?_⟩
 ·unfold nE
  simp [rightE,rightL,hh]
 ·unfold n1E
  have h8:headE sNum 1 [] 0=true:=by decide
  have h9:headE [43] 0 [] 2=true:=by decide
  simp [rightE,rightL,hh,h8,h9]
theorem fit_nE {m:List UInt8} (h:m.length<=1000):fitE (nE m)=true/\fitE (n1E m)=true:=by
 unfold nE n1E
 simp [fitE,Proofs.YtfdcigbompkeoaaGreatDoor.fitL,h]
theorem lb_right {d:Int} (hd:d=0∨d=1) {m:List UInt8} (h:plainB d m=true):rightS d (sA1 m)=0/\rightS d (sC1 m)=0/\rightS d (sC2 m)=0/\rightS d (sC3 m)=0:=by
 obtain ⟨h1,h2,h3,h4,h5,h6⟩:=plain_facts h
 have hk:knownB d=true:=by rcases hd with rfl | rfl <;> rfl
 obtain ⟨k1,k2⟩:=plain_nE hd h 22
 have hm:m≠[]:=by intro e;rw [e] at h4;simp at h4
 have hi:m.isEmpty=false:=by cases m with
  | nil=>exact absurd rfl hm
  | cons _ _=>rfl
 have e5:rightE (.mk sNum 5 [] []) 24=true:=by decide
 have e1:rightE (.mk sNum 1 [] []) 24=true:=by decide
 have hr1:rightE (nE m) 24=true:=(plain_nE hd h 23).1
 have a0:∀ (op:List UInt8) (e:Ex),rightE e 24=true->(namesE e).all (plainB d)=true->rightA d op (aE e)=true:=fun op e g1 g2=>by
  unfold rightA aE
  simp [g1,g2]
 have n0:(namesE (nE m)).all (plainB d)=true:=by unfold nE;simp [namesE,namesL,h]
 have n1:(namesE (n1E m)).all (plainB d)=true:=by unfold n1E;simp [namesE,namesL,h]
 have n5:∀ k,(namesE (.mk sNum k [] [])).all (plainB d)=true:=fun k=>by simp [namesE,namesL]
 refine ⟨?_,?_,?_,?_⟩
 ·exact right_of hk (fun _=>h) (by intro g;cases g) (fun _=>by show greatB sEQU=true;decide) (fun _=>hm) (by show false=(!m.isEmpty && !setsB sEQU);rw [hi];decide) (by show 1<=32;decide) (by show [aE (.mk sNum 5 [] [])].all _=true;rw [List.all_cons,a0 _ _ e5 (n5 5)];rfl)
 ·exact right_of hk (fun _=>h) (by intro g;cases g) (fun _=>by show greatB sSET=true;decide) (fun _=>hm) (by show false=(!m.isEmpty && !setsB sSET);rw [hi];decide) (by show 1<=32;decide) (by show [aE (.mk sNum 1 [] [])].all _=true;rw [List.all_cons,a0 _ _ e1 (n5 1)];rfl)
 ·exact right_of hk (fun _=>h) (by intro g;cases g) (fun _=>by show greatB sSET=true;decide) (fun _=>hm) (by show false=(!m.isEmpty && !setsB sSET);rw [hi];decide) (by show 1<=32;decide) (by show [aE (n1E m)].all _=true;rw [List.all_cons,a0 _ _ k2 n1];rfl)
 ·exact right_of hk (fun g=>absurd rfl g) (by intro g;cases g) (fun _=>by show greatB sDW=true;decide) (by intro g;exact absurd (show setsB sDW=true from g) (by decide)) (by show false=(!([]:List UInt8).isEmpty && !setsB sDW);decide) (by show 1<=32;decide) (by show [aE (nE m)].all _=true;rw [List.all_cons,a0 _ _ hr1 n0];rfl)
theorem cons_of {m:List UInt8} (h:1<=m.length):∃ c r,m=c :: r:=by
 cases m with
 | nil=>simp at h
 | cons c r=>exact ⟨c,r,rfl⟩
theorem tx_A1 (d:Int) {m:List UInt8} (h:1<=m.length):textS d (sA1 m)=m++[32,69,81,85,32,53]:=by
 obtain ⟨c,r,rfl⟩:=cons_of h
 have e:rightE (.mk sNum 5 [] []) 24=true:=by decide
 simp [textS,wordsS,labS,sA1,aE,showA,e,List.intercalate]
 rfl
theorem tx_C1 (d:Int) {m:List UInt8} (h:1<=m.length):textS d (sC1 m)=m++[32,83,69,84,32,49]:=by
 obtain ⟨c,r,rfl⟩:=cons_of h
 have e:rightE (.mk sNum 1 [] []) 24=true:=by decide
 simp [textS,wordsS,labS,sC1,aE,showA,e,List.intercalate]
 rfl
theorem sh_n (m:List UInt8):showE (nE m) 1=m:=by
 unfold nE
 simp [showE]
 try rfl
theorem sh_n1 (m:List UInt8):showE (n1E m) 1=m++[32,43,32,49]:=by
 unfold n1E
 simp [showE,bindsE]
 try rfl
theorem tk_A1 {m:List UInt8} (h:1<=m.length):toksS 0 (sA1 m) = [(1,m,0),(1,sEQU,0),(2,[],5)]:=by
 obtain ⟨c,r,rfl⟩:=cons_of h
 rfl
theorem tk_A2 (m:List UInt8):toksS 0 (sA2 m) = [(1,sLXI,0),(1,[72],0),(4,[44],0),(1,m,0),(4,[43],0),(2,[],1)]:=rfl
theorem tk_B1 {m:List UInt8} (h:1<=m.length):toksS 0 (sB1 m) = [(1,m,0),(4,[58],0),(1,sJMP,0),(1,m,0)]:=by
 obtain ⟨c,r,rfl⟩:=cons_of h
 rfl
theorem tk_C1 {m:List UInt8} (h:1<=m.length):toksS 0 (sC1 m) = [(1,m,0),(1,sSET,0),(2,[],1)]:=by
 obtain ⟨c,r,rfl⟩:=cons_of h
 rfl
theorem tk_C2 {m:List UInt8} (h:1<=m.length):toksS 0 (sC2 m) = [(1,m,0),(1,sSET,0),(1,m,0),(4,[43],0),(2,[],1)]:=by
 obtain ⟨c,r,rfl⟩:=cons_of h
 rfl
theorem tk_C3 (m:List UInt8):toksS 0 (sC3 m) = [(1,sDW,0),(1,m,0)]:=rfl
theorem tx_A2 {d:Int} (hd:d=0∨d=1) {m:List UInt8} (h:plainB d m=true):textS d (sA2 m) = [76,88,73,32,72,44]++(m++[32,43,32,49]):=by
 have e:=(plain_nE hd h 22).2
 simp [textS,wordsS,labS,sA2,aE,showA,e,sh_n1,List.intercalate]
theorem tx_LD {d:Int} (hd:d=0∨d=1) {m:List UInt8} (h:plainB d m=true):textS d ⟨[],false,[76,68],[⟨[72,76],[],false,false,ex0⟩,aE (n1E m)]⟩ = [76,68,32,72,76,44]++(m++[32,43,32,49]):=by
 have e:=(plain_nE hd h 22).2
 simp [textS,wordsS,labS,aE,showA,e,sh_n1,List.intercalate]
theorem tx_J (op:List UInt8) (ho:op≠[]) {d:Int} (hd:d=0∨d=1) {m:List UInt8} (h:plainB d m=true):textS d ⟨m,true,op,[aE (nE m)]⟩=m++(58 :: 32 :: op)++32 :: m:=by
 have e:=(plain_nE hd h 23).1
 obtain ⟨c,r,hm⟩:=cons_of (plain_facts h).2.2.2.1
 have hi:m.isEmpty=false:=by rw [hm];rfl
 have ho2:op.isEmpty=false:=by cases op with
  | nil=>exact absurd rfl ho
  | cons _ _=>rfl
 simp [textS,wordsS,labS,aE,showA,e,sh_n,List.intercalate,hi,ho2]
theorem tx_C2 {d:Int} (hd:d=0∨d=1) {m:List UInt8} (h:plainB d m=true):textS d (sC2 m)=m++[32,83,69,84,32]++(m++[32,43,32,49]):=by
 have e:=(plain_nE hd h 22).2
 obtain ⟨c,r,hm⟩:=cons_of (plain_facts h).2.2.2.1
 have hi:m.isEmpty=false:=by rw [hm];rfl
 simp [textS,wordsS,labS,sC2,aE,showA,e,sh_n1,List.intercalate,hi]
theorem tx_C3 {d:Int} (hd:d=0∨d=1) {m:List UInt8} (h:plainB d m=true):textS d (sC3 m) = [68,87,32]++m:=by
 have e:=(plain_nE hd h 23).1
 obtain ⟨c,r,hm⟩:=cons_of (plain_facts h).2.2.2.1
 have hi:m.isEmpty=false:=by rw [hm];rfl
 simp [textS,wordsS,labS,sC3,aE,showA,e,sh_n,List.intercalate,hi]
theorem lb_fit {m:List UInt8} (h:m.length<=1000):(∀ a∈(sA1 m).args,fitE a.e=true)/\(∀ a∈(sA2 m).args,fitE a.e=true)/\(∀ a∈(sB1 m).args,fitE a.e=true)/\(∀ a∈(sC1 m).args,fitE a.e=true)/\(∀ a∈(sC2 m).args,fitE a.e=true)/\(∀ a∈(sC3 m).args,fitE a.e=true):=by
 obtain ⟨h1,h2⟩:=fit_nE h
 have e0:fitE ex0=true:=by decide
 have e5:fitE (.mk sNum 5 [] [])=true:=by decide
 have e1:fitE (.mk sNum 1 [] [])=true:=by decide
 simp [sA1,sA2,sB1,sC1,sC2,sC3,aE,h1,h2,e0,e5,e1]
theorem lb_right2 {m:List UInt8} (h:plainB 0 m=true):rightS 0 (sA2 m)=0/\rightS 0 (sB1 m)=0:=by
 obtain ⟨h1,h2,h3,h4,h5,h6⟩:=plain_facts h
 obtain ⟨c,r,hm⟩:=cons_of h4
 have hm0:m≠[]:=by rw [hm];simp
 have hi:m.isEmpty=false:=by rw [hm];rfl
 have k2:=(plain_nE (.inl rfl) h 22).2
 have k1:=(plain_nE (.inl rfl) h 23).1
 have n0:(namesE (nE m)).all (plainB 0)=true:=by unfold nE;simp [namesE,namesL,h]
 have n1:(namesE (n1E m)).all (plainB 0)=true:=by unfold n1E;simp [namesE,namesL,h]
 have a0:∀ (op:List UInt8) (e:Ex),rightE e 24=true->(namesE e).all (plainB 0)=true->rightA 0 op (aE e)=true:=fun op e g1 g2=>by
  unfold rightA aE
  simp [g1,g2]
 have aH:rightA 0 sLXI ⟨[72],[],false,false,ex0⟩=true:=by decide
 refine ⟨?_,?_⟩
 ·exact right_of rfl (fun g=>absurd rfl g) (by intro g;cases g) (fun _=>by show greatB sLXI=true;decide) (by intro g;exact absurd (show setsB sLXI=true from g) (by decide)) (by show false=(!([]:List UInt8).isEmpty && !setsB sLXI);decide) (by show 2<=32;decide) (by show [(⟨[72],[],false,false,ex0⟩:Ar),aE (n1E m)].all (rightA 0 sLXI)=true;rw [List.all_cons,List.all_cons,aH,a0 _ _ k2 n1];rfl)
 ·exact right_of rfl (fun _=>h) (by intro g;cases g) (fun _=>by show greatB sJMP=true;decide) (by intro g;exact absurd (show setsB sJMP=true from g) (by decide)) (by show true=(!m.isEmpty && !setsB sJMP);rw [hi];decide) (by show 1<=32;decide) (by show [aE (nE m)].all (rightA 0 sJMP)=true;rw [List.all_cons,a0 _ _ k1 n0];rfl)
theorem tk_1 (k:UInt8) (t:Tok) (h:lineL [32,k]=([t],0)):Toks [32,k] [t]:=by
 have:=lineL_toks [32,k] (by rw [h])
 rw [h] at this
 exact this
theorem tk_end:Toks [32,43,32,49] [(4,[43],0),(2,[],1)]:=by
 have h:lineL [32,43,32,49]=([(4,[43],0),(2,[],1)],0):=by decide +kernel
 have:=lineL_toks [32,43,32,49] (by rw [h])
 rw [h] at this
 exact this
theorem lb_parse {m:List UInt8} (h:plainB 0 m=true) (hl:m.length<=12) :
  parseS 0 (m++[32,101,113,117,32,53])=(sA1 m,0)/\parseS 0 ([108,120,105,32,104,44]++(m++[32,43,32,49]))=(sA2 m,0)/\parseS 0 (m++[58,32,106,109,112,32]++m)=(sB1 m,0) /\
  parseS 0 (m++[32,115,101,116,32,49])=(sC1 m,0)/\parseS 0 (m++[32,115,101,116,32]++(m++[32,43,32,49]))=(sC2 m,0)/\parseS 0 ([100,119,32]++m)=(sC3 m,0):=by
 obtain ⟨h1,h2,h3,h4,h5,h6⟩:=plain_facts h
 obtain ⟨r1,r2,r3,r4⟩:=lb_right (.inl rfl) h
 obtain ⟨r5,r6⟩:=lb_right2 h
 obtain ⟨f1,f2,f3,f4,f5,f6⟩:=lb_fit (m:=m) (by omega)
 have nm:=toks_nm m h1
 have low:=fun (p R:List UInt8) (us:List Tok)=>toks_low p R us
 have t5:Toks [32,53] [(2,[],5)]:=tk_1 53 _ (by decide +kernel)
 have t1:Toks [32,49] [(2,[],1)]:=tk_1 49 _ (by decide +kernel)
 have eN:=nm [] [] Tl.nil .nil
 rw [List.append_nil] at eN
 have eP:=nm _ _ (Tl.sp _) tk_end
 refine ⟨parse_toks r1 f1 ?_ ?_ ?_,parse_toks r5 f2 ?_ ?_ ?_,parse_toks r6 f3 ?_ ?_ ?_,parse_toks r2 f4 ?_ ?_ ?_,parse_toks r3 f5 ?_ ?_ ?_,parse_toks r4 f6 ?_ ?_ ?_⟩
 ·rw [tx_A1 0 h4];simp;omega
 ·rw [tk_A1 h4]
  exact nm _ _ (Tl.sp _) (.space 32 _ _ (.inl rfl) (low [101,113,117] _ _ (by decide) (by decide) (by decide) (by decide) (by decide) (Tl.sp _) t5))
 ·simp;omega
 ·rw [tx_A2 (.inl rfl) h];simp;omega
 ·rw [tk_A2]
  exact low [108,120,105] _ _ (by decide) (by decide) (by decide) (by decide) (by decide) (Tl.sp _) (.space 32 _ _ (.inl rfl) (low [104] _ _ (by decide) (by decide) (by decide) (by decide) (by decide) (Tl.com _) (toks_mark 44 (by decide) _ _ eP)))
 ·simp;omega
 ·show (textS 0 ⟨m,true,sJMP,[aE (nE m)]⟩).length<=200
  rw [tx_J sJMP (by decide) (.inl rfl) h];simp;omega
 ·rw [tk_B1 h4,List.append_assoc]
  exact nm _ _ (Tl.col _) (toks_mark 58 (by decide) _ _ (.space 32 _ _ (.inl rfl) (low [106,109,112] _ _ (by decide) (by decide) (by decide) (by decide) (by decide) (Tl.sp _) (.space 32 _ _ (.inl rfl) eN))))
 ·simp;omega
 ·rw [tx_C1 0 h4];simp;omega
 ·rw [tk_C1 h4]
  exact nm _ _ (Tl.sp _) (.space 32 _ _ (.inl rfl) (low [115,101,116] _ _ (by decide) (by decide) (by decide) (by decide) (by decide) (Tl.sp _) t1))
 ·simp;omega
 ·rw [tx_C2 (.inl rfl) h];simp;omega
 ·rw [tk_C2 h4,List.append_assoc]
  exact nm _ _ (Tl.sp _) (.space 32 _ _ (.inl rfl) (low [115,101,116] _ _ (by decide) (by decide) (by decide) (by decide) (by decide) (Tl.sp _) (.space 32 _ _ (.inl rfl) eP)))
 ·simp;omega
 ·rw [tx_C3 (.inl rfl) h];simp;omega
 ·rw [tk_C3]
  exact low [100,119] _ _ (by decide) (by decide) (by decide) (by decide) (by decide) (Tl.sp _) (.space 32 _ _ (.inl rfl) eN)
 ·simp;omega
theorem crL_no {l:List UInt8} (h:13∉l):crL l=l:=by
 unfold crL Lib.trimSuffix
 rw [if_neg]
 intro hs
 refine h ?_
 unfold Lib.hasSuffix at hs
 exact (List.isSuffixOf_iff_suffix.1 hs).mem (by simp)
theorem splitNl_one {a:List UInt8} (h:10∉a):∀ cur,splitNl a cur = [cur++a]:=by
 induction a with
 | nil=>intro cur;simp [splitNl]
 | cons c r ih=>
  intro cur
  simp only [List.mem_cons,not_or] at h
  unfold splitNl
  rw [if_neg (fun e=>h.1 e.symm),ih h.2]
  simp
theorem name_no {m:List UInt8} (h:nameB m=true):10∉m/\13∉m:=by
 unfold nameB at h
 simp only [Bool.and_eq_true,List.all_eq_true] at h
 exact ⟨fun hm=>absurd (h.2 _ hm) (by decide),fun hm=>absurd (h.2 _ hm) (by decide)⟩
theorem src_1 {a:List UInt8} {s:St} (ha:10∉a/\13∉a) (hl:a.length<=1000) (h0:a≠[]) (h:parseS 0 a=(s,0)):srcS 0 a=([s],0,0):=by
 rw [src_read 0 rfl _ (by omega)]
 have e1:parseCr 0 a=(s,0):=by unfold parseCr;rw [crL_no ha.2,h]
 have e2:linesL a = [a]:=by
  unfold linesL
  rw [splitNl_one ha.1]
  simp [h0]
 rw [e2]
 simp [readL,e1]
theorem src_2 {a b:List UInt8} {s t:St} (ha:10∉a/\13∉a) (hb:10∉b/\13∉b) (hl:a.length+b.length<=1000) (h0:b≠[]) (h:parseS 0 a=(s,0)) (h2:parseS 0 b=(t,0)):srcS 0 (a++10 :: b)=([s,t],0,0):=by
 rw [src_read 0 rfl _ (by simp;omega)]
 have e1:parseCr 0 a=(s,0):=by unfold parseCr;rw [crL_no ha.2,h]
 have e3:parseCr 0 b=(t,0):=by unfold parseCr;rw [crL_no hb.2,h2]
 have e2:linesL (a++10 :: b) = [a,b]:=by
  unfold linesL
  rw [splitNl_app,splitNl_one ha.1,splitNl_one hb.1]
  simp [h0]
 rw [e2]
 simp [readL,e1,e3]
theorem src_3 {a b c:List UInt8} {s t u:St} (ha:10∉a/\13∉a) (hb:10∉b/\13∉b) (hc:10∉c/\13∉c) (hl:a.length+b.length+c.length<=1000) (h0:c≠[]) (h:parseS 0 a=(s,0)) (h2:parseS 0 b=(t,0)) (h3:parseS 0 c=(u,0)):srcS 0 (a++10 :: (b++10 :: c))=([s,t,u],0,0):=by
 rw [src_read 0 rfl _ (by simp;omega)]
 have e1:parseCr 0 a=(s,0):=by unfold parseCr;rw [crL_no ha.2,h]
 have e3:parseCr 0 b=(t,0):=by unfold parseCr;rw [crL_no hb.2,h2]
 have e4:parseCr 0 c=(u,0):=by unfold parseCr;rw [crL_no hc.2,h3]
 have e2:linesL (a++10 :: (b++10 :: c)) = [a,b,c]:=by
  unfold linesL
  rw [splitNl_app,splitNl_app,splitNl_one ha.1,splitNl_one hb.1,splitNl_one hc.1]
  simp [h0]
 rw [e2]
 simp [readL,e1,e3,e4]
def lbA (m:List UInt8):List UInt8:=m++[32,101,113,117,32,53,10,108,120,105,32,104,44]++m++[32,43,32,49]
def lbB (m:List UInt8):List UInt8:=m++[58,32,106,109,112,32]++m
def lbC (m:List UInt8):List UInt8:=m++[32,115,101,116,32,49,10]++m++[32,115,101,116,32]++m++[32,43,32,49,10,100,119,32]++m
theorem lb_src {m:List UInt8} (h:plainB 0 m=true) (hl:m.length<=12):srcS 0 (lbA m)=([sA1 m,sA2 m],0,0)/\srcS 0 (lbB m)=([sB1 m],0,0)/\srcS 0 (lbC m)=([sC1 m,sC2 m,sC3 m],0,0):=by
 obtain ⟨p1,p2,p3,p4,p5,p6⟩:=lb_parse h hl
 obtain ⟨n1,n2⟩:=name_no (plain_facts h).2.1
 refine ⟨?_,?_,?_⟩
 ·have e:lbA m=(m++[32,101,113,117,32,53])++10 :: ([108,120,105,32,104,44]++(m++[32,43,32,49])):=by simp [lbA]
  rw [e]
  exact src_2 (by simp [n1,n2]) (by simp [n1,n2]) (by simp;omega) (by simp) p1 p2
 ·exact src_1 (by simp [lbB,n1,n2]) (by simp [lbB];omega) (by simp [lbB]) p3
 ·have e:lbC m=(m++[32,115,101,116,32,49])++10 :: ((m++[32,115,101,116,32]++(m++[32,43,32,49]))++10 :: ([100,119,32]++m)):=by simp [lbC]
  rw [e]
  exact src_3 (by simp [n1,n2]) (by simp [n1,n2]) (by simp [n1,n2]) (by simp;omega) (by simp) p4 p5 p6
theorem ev_num (here:Nat) (val:List UInt8->Nat × Nat) (k:Nat):evalE here val (.mk sNum k [] [])=(k,0):=by simp [evalE]
theorem ev_n (here:Nat) (val:List UInt8->Nat × Nat) (m:List UInt8):evalE here val (nE m)=val m:=by unfold nE;simp [evalE]
theorem ev_n1 (here:Nat) (val:List UInt8->Nat × Nat) (m:List UInt8) (v:Nat) (h:val m=(v,0)):evalE here val (n1E m)=((v+1) % 65536,0):=by
 unfold n1E;simp [evalE,h,twoE]
theorem fd_LXI (dl:Dst) (m:List UInt8) (i:Nat):fd80 dl (sA2 m) i=some ⟨3,some 1,fun _ v t=>(opA80 33 2 v,t)⟩:=by
 have e0:find80 sLXI [[72],[]]=none:=by decide +kernel
 have e1:find80 sLXI [[72],sD8]=none:=by decide +kernel
 have e2:find80 sLXI [[72],sD16]=some 33:=by decide +kernel
 have f0:try80 (sA2 m) 0=none:=by
  unfold try80
  rw [show find80 (sA2 m).op (form80 (num80 0) (sA2 m).args)=none from e0]
 have f1:try80 (sA2 m) 1=none:=by
  unfold try80
  rw [show find80 (sA2 m).op (form80 (num80 1) (sA2 m).args)=none from e1]
 have f2:try80 (sA2 m) 2=some ⟨3,some 1,fun _ v t=>(opA80 33 2 v,t)⟩:=by
  unfold try80
  rw [show find80 (sA2 m).op (form80 (num80 2) (sA2 m).args)=some 33 from e2]
  rfl
 unfold fd80
 rw [if_neg (show ¬ (sA2 m).op=sRST by show ¬ sLXI=sRST;decide),f0,f1,f2]
theorem fd_JMP (dl:Dst) (m:List UInt8) (i:Nat):fd80 dl (sB1 m) i=some ⟨3,some 0,fun _ v t=>(opA80 195 2 v,t)⟩:=by
 have e0:find80 sJMP [[]]=none:=by decide +kernel
 have e1:find80 sJMP [sD8]=none:=by decide +kernel
 have e2:find80 sJMP [sD16]=some 195:=by decide +kernel
 have f0:try80 (sB1 m) 0=none:=by
  unfold try80
  rw [show find80 (sB1 m).op (form80 (num80 0) (sB1 m).args)=none from e0]
 have f1:try80 (sB1 m) 1=none:=by
  unfold try80
  rw [show find80 (sB1 m).op (form80 (num80 1) (sB1 m).args)=none from e1]
 have f2:try80 (sB1 m) 2=some ⟨3,some 0,fun _ v t=>(opA80 195 2 v,t)⟩:=by
  unfold try80
  rw [show find80 (sB1 m).op (form80 (num80 2) (sB1 m).args)=some 195 from e2]
  rfl
 unfold fd80
 rw [if_neg (show ¬ (sB1 m).op=sRST by show ¬ sJMP=sRST;decide),f0,f1,f2]
theorem pass_2 {fd:Fd} {sec:Bool} {s t:St} {g g1:Eg} (h0:g.done=false) (h1:oneA fd sec s 0 g=(g1,0)) (hd:g1.done=false) (h2:(oneA fd sec t 1 g1).2=0) (ho:(oneA fd sec t 1 g1).1.op = []):passL fd sec [s,t] 0 g=((oneA fd sec t 1 g1).1,0,0):=by
 simp [passL,h0,h1,hd,h2,endA,ho]
theorem pass_3 {fd:Fd} {sec:Bool} {s t u:St} {g g1 g2:Eg} (h0:g.done=false) (h1:oneA fd sec s 0 g=(g1,0)) (hd:g1.done=false) (h2:oneA fd sec t 1 g1=(g2,0)) (hd2:g2.done=false) (h3:(oneA fd sec u 2 g2).2=0) (ho:(oneA fd sec u 2 g2).1.op = []):passL fd sec [s,t,u] 0 g=((oneA fd sec u 2 g2).1,0,0):=by
 simp [passL,h0,h1,hd,h2,hd2,h3,endA,ho]
theorem asm_A {m:List UInt8} (h:plainB 0 m=true) (hl:m.length<=12):(asm80A (lbA m)).2.2=0/\(asm80A (lbA m)).1.used = [1,2]:=by
 have hs:=(lb_src h hl).1
 have hg:=(plain_facts h).1
 have r5:rightE (.mk sNum 5 [] []) 24=true:=by decide
 have rn:=(plain_nE (.inl rfl) h 22).2
 have p1:passA fd80 false [sA1 m,sA2 m] [] ([],false)=({ eg0 [] ([],false) with pl:=3,syms:=[(m,5,2)],used:=[1,2] },0,0):=by
  have o1:oneA fd80 false (sA1 m) 0 (eg0 [] ([],false))=({ eg0 [] ([],false) with syms:=[(m,5,2)],used:=[1] },0):=by
   simp [oneA,sA1,countsA,eg0,foundA,dirA,laidA,plainA,aE,bodyA,directA,arg0,evA,evP,r5,ev_num,symA,putK,getT,setT,forgetT,hg]
  have o2:oneA fd80 false (sA2 m) 1 { eg0 [] ([],false) with syms:=[(m,5,2)],used:=[1] }=({ eg0 [] ([],false) with pl:=3,syms:=[(m,5,2)],used:=[1,2] },0):=by
   simp [oneA,countsA,eg0,foundA,bodyA,fd_LXI,instrA,layA,show (sA2 m).op=sLXI from rfl,show (sA2 m).colon=false from rfl,dirA]
  unfold passA
  simp [passL,o1,o2]
  simp [eg0,endA]
 have p2:(passA fd80 true [sA1 m,sA2 m] [(m,5,2)] ([],false)).2.2=0/\(passA fd80 true [sA1 m,sA2 m] [(m,5,2)] ([],false)).1.used = [1,2]:=by
  have o1:oneA fd80 true (sA1 m) 0 (eg0 [(m,5,2)] ([],false))=({ eg0 [(m,5,2)] ([],false) with used:=[1] },0):=by
   simp [oneA,sA1,countsA,eg0,foundA,dirA,laidA,plainA,aE,bodyA,directA,arg0,evA,evP,r5,ev_num,forgetT]
  have hv:evA { eg0 [(m,5,2)] ([],false) with used:=[1,2] } (n1E m)=(6,0):=by
   unfold evA evP
   rw [rn,if_pos rfl]
   exact ev_n1 _ _ m 5 (by simp [eg0,forgetT,valT,getT])
  have hv2:∀ x:Eg,x.syms = [(m,5,2)]->evA x (n1E m)=(6,0):=fun x hx=>by
   unfold evA evP
   rw [rn,if_pos rfl]
   exact ev_n1 _ _ m 5 (by rw [hx];simp [valT,getT])
  have o2:(oneA fd80 true (sA2 m) 1 { eg0 [(m,5,2)] ([],false) with used:=[1] }).2=0/\(oneA fd80 true (sA2 m) 1 { eg0 [(m,5,2)] ([],false) with used:=[1] }).1.used = [1,2]/\(oneA fd80 true (sA2 m) 1 { eg0 [(m,5,2)] ([],false) with used:=[1] }).1.op = []:=by
   have hb:opA80 33 2 6=([33,6,0],6,0):=by decide +kernel
   have hp:putIK [] 0 [33,6,0]=0:=by decide +kernel
   have ha:argE (sA2 m) (some 1)=n1E m:=rfl
   simp [oneA,countsA,eg0,foundA,bodyA,fd_LXI,instrA,layA,show (sA2 m).op=sLXI from rfl,show (sA2 m).colon=false from rfl,dirA,ha,hv2,forgetT,hb,hp]
  obtain ⟨q1,q2,q3⟩:=o2
  unfold passA
  rw [pass_2 rfl o1 rfl q1 q3]
  exact ⟨rfl,q2⟩
 have e:asm80A (lbA m)=run80 [sA1 m,sA2 m]:=by unfold asm80A;rw [hs,if_neg (by simp)]
 rw [e]
 unfold run80
 rw [p1]
 simpa using p2
theorem asm_B {m:List UInt8} (h:plainB 0 m=true) (hl:m.length<=12):(asm80A (lbB m)).2.2=0/\(asm80A (lbB m)).1.used = [1]:=by
 have hs:=(lb_src h hl).2.1
 have hg:=(plain_facts h).1
 have rn:=(plain_nE (.inl rfl) h 23).1
 have p1:passA fd80 false [sB1 m] [] ([],false)=({ eg0 [] ([],false) with pl:=3,syms:=[(m,0,1)],used:=[1] },0,0):=by
  have o1:oneA fd80 false (sB1 m) 0 (eg0 [] ([],false))=({ eg0 [] ([],false) with pl:=3,syms:=[(m,0,1)],used:=[1] },0):=by
   simp [oneA,countsA,eg0,foundA,bodyA,fd_JMP,instrA,layA,show (sB1 m).op=sJMP from rfl,show (sB1 m).colon=true from rfl,show (sB1 m).label=m from rfl,dirA,labelA,symA,putK,getT,setT,forgetT,hg]
  unfold passA
  simp [passL,o1]
  simp [eg0,endA]
 have p2:(passA fd80 true [sB1 m] [(m,0,1)] ([],false)).2.2=0/\(passA fd80 true [sB1 m] [(m,0,1)] ([],false)).1.used = [1]:=by
  have hv2:∀ x:Eg,x.syms = [(m,0,1)]->evA x (nE m)=(0,0):=fun x hx=>by
   unfold evA evP
   rw [rn,if_pos rfl,ev_n,hx]
   simp [valT,getT]
  have o2:(oneA fd80 true (sB1 m) 0 (eg0 [(m,0,1)] ([],false))).2=0/\(oneA fd80 true (sB1 m) 0 (eg0 [(m,0,1)] ([],false))).1.used = [1]/\(oneA fd80 true (sB1 m) 0 (eg0 [(m,0,1)] ([],false))).1.op = []:=by
   have hb:opA80 195 2 0=([195,0,0],0,0):=by decide +kernel
   have hp:putIK [] 0 [195,0,0]=0:=by decide +kernel
   have ha:argE (sB1 m) (some 0)=nE m:=rfl
   simp [oneA,countsA,eg0,foundA,bodyA,fd_JMP,instrA,layA,show (sB1 m).op=sJMP from rfl,show (sB1 m).colon=true from rfl,dirA,labelA,ha,hv2,forgetT,hb,hp]
  obtain ⟨q1,q2,q3⟩:=o2
  unfold passA
  simp [passL,q1,endA,q2,q3,show (eg0 [(m,0,1)] ([],false)).done=false from rfl]
 have e:asm80A (lbB m)=run80 [sB1 m]:=by unfold asm80A;rw [hs,if_neg (by simp)]
 rw [e]
 unfold run80
 rw [p1]
 simpa using p2
theorem asm_C {m:List UInt8} (h:plainB 0 m=true) (hl:m.length<=12):(asm80A (lbC m)).2.2=0/\(asm80A (lbC m)).1.used = [1,2,3]:=by
 have hs:=(lb_src h hl).2.2
 have hg:=(plain_facts h).1
 have r1:rightE (.mk sNum 1 [] []) 24=true:=by decide
 have rn:=(plain_nE (.inl rfl) h 23).1
 have rn1:=(plain_nE (.inl rfl) h 22).2
 have hv1:∀ x:Eg,x.syms = [(m,1,3)]->evA x (n1E m)=(2,0):=fun x hx=>by
  unfold evA evP
  rw [rn1,if_pos rfl]
  exact ev_n1 _ _ m 1 (by rw [hx];simp [valT,getT])
 have hv2:∀ x:Eg,x.syms = [(m,2,3)]->evA x (nE m)=(2,0):=fun x hx=>by
  unfold evA evP
  rw [rn,if_pos rfl,ev_n,hx]
  simp [valT,getT]
 have o1:∀ sec:Bool,oneA fd80 sec (sC1 m) 0 (eg0 [] ([],false))=({ eg0 [] ([],false) with syms:=[(m,1,3)],used:=[1] },0):=fun sec=>by
  simp [oneA,sC1,countsA,eg0,foundA,dirA,laidA,plainA,aE,bodyA,directA,arg0,evA,evP,r1,ev_num,symA,putK,getT,setT,forgetT,hg]
 have o2:∀ sec:Bool,oneA fd80 sec (sC2 m) 1 { eg0 [] ([],false) with syms:=[(m,1,3)],used:=[1] }=({ eg0 [] ([],false) with syms:=[(m,2,3)],used:=[1,2] },0):=fun sec=>by
  simp [oneA,sC2,countsA,eg0,foundA,dirA,laidA,plainA,aE,bodyA,directA,arg0,hv1,symA,putK,getT,setT,forgetT,hg]
 have p1:passA fd80 false [sC1 m,sC2 m,sC3 m] [] ([],false)=({ eg0 [] ([],false) with pl:=2,syms:=[(m,2,3)],used:=[1,2,3] },0,0):=by
  have o3:oneA fd80 false (sC3 m) 2 { eg0 [] ([],false) with syms:=[(m,2,3)],used:=[1,2] }=({ eg0 [] ([],false) with pl:=2,syms:=[(m,2,3)],used:=[1,2,3] },0):=by
   simp [oneA,sC3,countsA,eg0,foundA,dirA,laidA,plainA,aE,bodyA,directA,dataL,layA]
  unfold passA
  simp [passL,o1,o2,o3]
  simp [eg0,endA]
 have p2:(passA fd80 true [sC1 m,sC2 m,sC3 m] [(m,2,3)] ([],false)).2.2=0/\(passA fd80 true [sC1 m,sC2 m,sC3 m] [(m,2,3)] ([],false)).1.used = [1,2,3]:=by
  have e0:eg0 [(m,2,3)] ([],false)=eg0 [] ([],false):=by simp [eg0,forgetT]
  have o3:(oneA fd80 true (sC3 m) 2 { eg0 [] ([],false) with syms:=[(m,2,3)],used:=[1,2] }).2=0/\(oneA fd80 true (sC3 m) 2 { eg0 [] ([],false) with syms:=[(m,2,3)],used:=[1,2] }).1.used = [1,2,3]/\(oneA fd80 true (sC3 m) 2 { eg0 [] ([],false) with syms:=[(m,2,3)],used:=[1,2] }).1.op = []:=by
   have hp:putIK [] 0 [2,0]=0:=by decide +kernel
   simp [oneA,sC3,countsA,eg0,foundA,dirA,laidA,plainA,aE,bodyA,directA,dataL,layA,hv2,hp]
  obtain ⟨q1,q2,q3⟩:=o3
  unfold passA
  rw [e0,pass_3 rfl (o1 true) rfl (o2 true) rfl q1 q3]
  exact ⟨rfl,q2⟩
 have e:asm80A (lbC m)=run80 [sC1 m,sC2 m,sC3 m]:=by unfold asm80A;rw [hs,if_neg (by simp)]
 rw [e]
 unfold run80
 rw [p1]
 simpa using p2
abbrev sLD:List UInt8:=[76,68]
abbrev sJP:List UInt8:=[74,80]
def tA2 (m:List UInt8):St:=⟨[],false,sLD,[⟨[72,76],[],false,false,ex0⟩,aE (n1E m)]⟩
def tB1 (m:List UInt8):St:=⟨m,true,sJP,[aE (nE m)]⟩
theorem ren_ok {m:List UInt8} (hl:m.length<=12):(renA m).2=0:=by
 unfold renA
 split
 ·rfl
 ·rw [if_neg (by omega)]
theorem ren_len {m:List UInt8} (hl:m.length<=12):(renA m).1.length<=13:=by
 unfold renA
 split
 ·show m.length<=13;omega
 ·rw [if_neg (by omega)];simp;omega
theorem ren_num (k:Nat):renE (.mk sNum k [] [])=(.mk sNum k [] [],0):=by simp [renE,renL]
theorem ren_n {m:List UInt8} (h:(renA m).2=0):renE (nE m)=(nE (renA m).1,0):=by unfold nE;simp [renE,renL,h]
theorem ren_n1 {m:List UInt8} (h:(renA m).2=0):renE (n1E m)=(n1E (renA m).1,0):=by
 have e:=ren_n h
 unfold nE at e
 unfold n1E
 have e1:renE (.mk sNum 1 [] [])=(.mk sNum 1 [] [],0):=ren_num 1
 simp [renE,renL,h]
theorem ar_ren {e e':Ex} (h:renE e=(e',0)):renAr (aE e)=(aE e',0):=by
 unfold renAr aE
 simp [h]
theorem ar_H:renAr ⟨[72],[],false,false,ex0⟩=(⟨[72],[],false,false,ex0⟩,0):=by
 unfold renAr;simp
theorem stmt_dir {s:St} {l:List Ar} (h1:rightS 0 s=0) (h2:(renA s.label).2=0) (h3:renArs s.args=(l,0)) (hd:s.op∈dirOps) (hw:s.args.any (fun a=>a.w != [])=false):stmtRw s=(⟨(renA s.label).1,s.colon,s.op,l⟩,0):=by
 unfold stmtRw
 rw [h1,if_neg (by simp),h2,if_neg (by simp),h3,if_neg (by simp),if_neg (by simpa using hd),hw,if_neg (by simp)]
 unfold renS
 rw [h3]
theorem stmt_ins {s t:St} {l:List Ar} (h1:rightS 0 s=0) (h2:(renA s.label).2=0) (h3:renArs s.args=(l,0)) (hd:s.op∉dirOps) (ht:turnRw ⟨(renA s.label).1,s.colon,s.op,l⟩=(t,0)):stmtRw s=(t,0):=by
 have hS:renS s=⟨(renA s.label).1,s.colon,s.op,l⟩:=by unfold renS;rw [h3]
 unfold stmtRw
 rw [h1,if_neg (by simp),h2,if_neg (by simp),h3,if_neg (by simp),if_pos hd,hS,ht,if_neg (by simp)]
theorem tu_A2 (m:List UInt8):turnRw (sA2 m)=(tA2 m,0):=by
 have e0:find80 sLXI [[72],[]]=none:=by decide +kernel
 have e1:find80 sLXI [[72],sD8]=none:=by decide +kernel
 have e2:find80 sLXI [[72],sD16]=some 33:=by decide +kernel
 have ho:opcodeRw (sA2 m)=some 33:=by
  unfold opcodeRw tryRw
  rw [show find80 (sA2 m).op (wordsRw [] (sA2 m).args)=none from e0,show find80 (sA2 m).op (wordsRw sD8 (sA2 m).args)=none from e1,show find80 (sA2 m).op (wordsRw sD16 (sA2 m).args)=some 33 from e2]
  rfl
 have z1:zname 33=sLD:=by decide +kernel
 have z2:zargs 33 = [[72,76],[110,110]]:=by decide +kernel
 unfold turnRw
 rw [if_neg (show ¬ (sA2 m).op=sRST by show ¬ sLXI=sRST;decide),ho]
 simp only [z1,z2]
 rfl
theorem tu_B1 (m:List UInt8):turnRw (sB1 m)=(tB1 m,0):=by
 have e0:find80 sJMP [[]]=none:=by decide +kernel
 have e1:find80 sJMP [sD8]=none:=by decide +kernel
 have e2:find80 sJMP [sD16]=some 195:=by decide +kernel
 have ho:opcodeRw (sB1 m)=some 195:=by
  unfold opcodeRw tryRw
  rw [show find80 (sB1 m).op (wordsRw [] (sB1 m).args)=none from e0,show find80 (sB1 m).op (wordsRw sD8 (sB1 m).args)=none from e1,show find80 (sB1 m).op (wordsRw sD16 (sB1 m).args)=some 195 from e2]
  rfl
 have z1:zname 195=sJP:=by decide +kernel
 have z2:zargs 195 = [[110,110]]:=by decide +kernel
 unfold turnRw
 rw [if_neg (show ¬ (sB1 m).op=sRST by show ¬ sJMP=sRST;decide),ho]
 simp only [z1,z2]
 rfl
theorem lb_stmts {m:List UInt8} (h:plainB 0 m=true) (hl:m.length<=12) :
  stmtRw (sA1 m)=(sA1 (renA m).1,0)/\stmtRw (sA2 m)=(tA2 (renA m).1,0)/\stmtRw (sB1 m)=(tB1 (renA m).1,0)/\stmtRw (sC1 m)=(sC1 (renA m).1,0)/\stmtRw (sC2 m)=(sC2 (renA m).1,0)/\stmtRw (sC3 m)=(sC3 (renA m).1,0):=by
 have hr:=ren_ok hl
 obtain ⟨r1,r2,r3,r4⟩:=lb_right (.inl rfl) h
 obtain ⟨r5,r6⟩:=lb_right2 h
 have g5:=ar_ren (ren_num 5)
 have g1:=ar_ren (ren_num 1)
 have gn:=ar_ren (ren_n hr)
 have gn1:=ar_ren (ren_n1 hr)
 have gH:=ar_H
 have one:∀ {a b:Ar},renAr a=(b,0)->renArs [a]=([b],0):=fun ha=>by simp [renArs,ha]
 have two:∀ {a b c d:Ar},renAr a=(b,0)->renAr c=(d,0)->renArs [a,c]=([b,d],0):=fun ha hc=>by simp [renArs,ha,hc]
 have e0:(renA ([]:List UInt8)).2=0/\(renA ([]:List UInt8)).1 = []:=by decide
 refine ⟨stmt_dir r1 hr (one g5) (by show sEQU∈dirOps;decide) rfl,?_,stmt_ins r6 hr (one gn) (by show sJMP∉dirOps;decide) (tu_B1 _),stmt_dir r2 hr (one g1) (by show sSET∈dirOps;decide) rfl,stmt_dir r3 hr (one gn1) (by show sSET∈dirOps;decide) rfl,?_⟩
 ·exact stmt_ins r5 e0.1 (two gH gn1) (by show sLXI∉dirOps;decide) (by rw [show (sA2 m).label = [] from rfl,e0.2];exact tu_A2 _)
 ·have:=stmt_dir r4 e0.1 (one gn) (by show sDW∈dirOps;decide) rfl
  rw [show (sC3 m).label = [] from rfl,e0.2] at this
  exact this
theorem t_right {m:List UInt8} (h:plainB 1 m=true):rightS 1 (tA2 m)=0/\rightS 1 (tB1 m)=0:=by
 obtain ⟨h1,h2,h3,h4,h5,h6⟩:=plain_facts h
 obtain ⟨c,r,hm⟩:=cons_of h4
 have hm0:m≠[]:=by rw [hm];simp
 have hi:m.isEmpty=false:=by rw [hm];rfl
 have k2:=(plain_nE (.inr rfl) h 22).2
 have k1:=(plain_nE (.inr rfl) h 23).1
 have n0:(namesE (nE m)).all (plainB 1)=true:=by unfold nE;simp [namesE,namesL,h]
 have n1:(namesE (n1E m)).all (plainB 1)=true:=by unfold n1E;simp [namesE,namesL,h]
 have a0:∀ (op:List UInt8) (e:Ex),rightE e 24=true->(namesE e).all (plainB 1)=true->rightA 1 op (aE e)=true:=fun op e g1 g2=>by
  unfold rightA aE
  simp [g1,g2]
 have aH:rightA 1 sLD ⟨[72,76],[],false,false,ex0⟩=true:=by decide
 refine ⟨?_,?_⟩
 ·exact right_of rfl (fun g=>absurd rfl g) (by intro g;cases g) (fun _=>by show greatB sLD=true;decide) (by intro g;exact absurd (show setsB sLD=true from g) (by decide)) (by show false=(!([]:List UInt8).isEmpty && !setsB sLD);decide) (by show 2<=32;decide) (by show [(⟨[72,76],[],false,false,ex0⟩:Ar),aE (n1E m)].all (rightA 1 sLD)=true;rw [List.all_cons,List.all_cons,aH,a0 _ _ k2 n1];rfl)
 ·exact right_of rfl (fun _=>h) (by intro g;cases g) (fun _=>by show greatB sJP=true;decide) (by intro g;exact absurd (show setsB sJP=true from g) (by decide)) (by show true=(!m.isEmpty && !setsB sJP);rw [hi];decide) (by show 1<=32;decide) (by show [aE (nE m)].all (rightA 1 sJP)=true;rw [List.all_cons,a0 _ _ k1 n0];rfl)
theorem show_ok {s:St} {x:List UInt8} (h1:rightS 1 s=0) (h2:textS 1 s=x) (h3:x.length<=200):showS 1 s=(x,0):=by
 unfold showS
 rw [h1,if_neg (by simp),h2,if_neg (by omega)]
theorem step_rw {l:List St} {n:Nat} {r:List Nat} {acc:List UInt8} {s t:St} {x:List UInt8} (h0:l.getD (n - 1) st0=s) (h1:stmtRw s=(t,0)) (h2:showS 1 t=(x,0)):showRw l (n :: r) acc=showRw l r (acc++(x++[10])):=by
 rw [showRw,h0,h1]
 simp only [ne_eq,not_true,if_false,h2]
theorem lb_rw {m:List UInt8} (h:plainB 0 m=true) (hl:m.length<=12) :
  srcRw (lbA m)=((renA m).1++[32,69,81,85,32,53,10,76,68,32,72,76,44]++(renA m).1++[32,43,32,49,10],0,0)/\srcRw (lbB m)=((renA m).1++[58,32,74,80,32]++(renA m).1++[10],0,0) /\
  srcRw (lbC m)=((renA m).1++[32,83,69,84,32,49,10]++(renA m).1++[32,83,69,84,32]++(renA m).1++[32,43,32,49,10,68,87,32]++(renA m).1++[10],0,0):=by
 obtain ⟨a1,a2⟩:=asm_A h hl
 obtain ⟨b1,b2⟩:=asm_B h hl
 obtain ⟨c1,c2⟩:=asm_C h hl
 obtain ⟨s1,s2,s3⟩:=lb_src h hl
 obtain ⟨q1,q2,q3,q4,q5,q6⟩:=lb_stmts h hl
 have hp:=ren_plain h (ren_ok hl)
 have hn:=ren_len hl
 generalize (renA m).1=tm at *
 obtain ⟨r1,r2,r3,r4⟩:=lb_right (.inr rfl) hp
 obtain ⟨r5,r6⟩:=t_right hp
 have h4:=(plain_facts hp).2.2.2.1
 have w1:=show_ok r1 (tx_A1 1 h4) (by simp;omega)
 have w2:=show_ok (s:=tA2 tm) r5 (tx_LD (.inr rfl) hp) (by simp;omega)
 have w3:=show_ok (s:=tB1 tm) r6 (tx_J sJP (by decide) (.inr rfl) hp) (by simp;omega)
 have w4:=show_ok r2 (tx_C1 1 h4) (by simp;omega)
 have w5:=show_ok r3 (tx_C2 (.inr rfl) hp) (by simp;omega)
 have w6:=show_ok r4 (tx_C3 (.inr rfl) hp) (by simp;omega)
 refine ⟨?_,?_,?_⟩
 ·unfold srcRw
  rw [a1,if_neg (by simp),a2,s1,step_rw (s:=sA1 m) rfl q1 w1,step_rw (s:=sA2 m) rfl q2 w2,showRw]
  simp
 ·unfold srcRw
  rw [b1,if_neg (by simp),b2,s2,step_rw (s:=sB1 m) rfl q3 w3,showRw]
  simp
 ·unfold srcRw
  rw [c1,if_neg (by simp),c2,s3,step_rw (s:=sC1 m) rfl q4 w4,step_rw (s:=sC2 m) rfl q5 w5,step_rw (s:=sC3 m) rfl q6 w6,showRw]
  simp
open Go.RowKit
theorem name_long (l:List UInt8) (w:World) (h16:16<l.length) :
  Calls Tryz.prog 68 #[.string ⟨l.toArray⟩] w fun e w'=>e=.returned (.bool false)/\w=w':=by
 have h16':(16:Int)<(l.length:Int):=by omega
 have he:l.isEmpty=false:=by cases l with | nil=>simp at h16 | cons c r=>rfl
 have h0:(l == [])=false:=by cases l with | nil=>simp at h16 | cons c r=>rfl
 go_enter Tryz.func68, Tryz.ntmps68
 go_wp2_with fail
 go_ret
 exact ⟨rfl,rfl⟩
theorem Plain_long (d:Int) (l:List UInt8) (w:World) (h16:16<l.length) :
  Calls Tryz.prog 10 #[.int .i64 d,.string ⟨l.toArray⟩] w fun e w'=>e=.returned (.bool false)/\Below w.heap.size w w':=by
 have HN:=LH (name_long l w h16)
 have HG:Hid (Calls Tryz.prog 33 #[.string ⟨l.toArray⟩] w fun e w'=>e=.returned (.bool false)/\w=w'):=LH (by
  go_enter Tryz.func33, Tryz.ntmps33
  go_wp2_with fail
  refine HN.out.mono ?_
  rintro e w1 ⟨rfl,rfl⟩
  go_wp2_with fail
  go_ret
  exact ⟨rfl,rfl⟩)
 clear HN
 go_enter Tryz.func10, Tryz.ntmps10
 go_wp2_with fail
 refine HG.out.mono ?_
 rintro e w1 ⟨rfl,rfl⟩
 go_wp2_with fail
 go_ret
 exact ⟨rfl,Below.refl _ _⟩
theorem two_box {w:World} {h:Nat} {c0 c1:Value} {T:TypeId} (hh:w.heap[h]? = some (.cells #[c0,c1] T (0,0))):w.cell? ⟨h,0,none⟩=some c0/\w.cell? ⟨h,1,none⟩=some c1:=⟨coh hh,coh hh⟩
set_option maxHeartbeats 4000000 in
set_option maxRecDepth 100000 in
theorem law19l_good (m:List UInt8) (n:Int) (w:World) (hg:GWL w) (hp:plainB 0 m=true) (hl:m.length<=12) :
  Calls Tryz.prog 4 #[.string ⟨m.toArray⟩,.int .u16 n] w fun r w'=>r=.returned (.bool true)/\Below w.heap.size w w':=by
 have HAl:=LH (fun W (hW:Below w.heap.size w W)=>alive19_any W (hg.below hW))
 have HP:=LH (Plain_any 0 m w (by omega) hg)
 have HREN:=LH (fun W=>refRename_any m (by omega) W)
 obtain ⟨l1,l2,l3⟩:=lb_rw hp hl
 have n1:(lbA m).length<=100000:=by unfold lbA;simp;omega
 have n2:(lbB m).length<=100000:=by unfold lbB;simp;omega
 have n3:(lbC m).length<=100000:=by unfold lbC;simp;omega
 have H1:=LH (fun W (hW:Below w.heap.size w W)=>wsrc_any (lbA m) W (hg.below hW) n1)
 have H2:=LH (fun W (hW:Below w.heap.size w W)=>wsrc_any (lbB m) W (hg.below hW) n2)
 have H3:=LH (fun W (hW:Below w.heap.size w W)=>wsrc_any (lbC m) W (hg.below hW) n3)
 have HRS:=LH (fun W=>rres_any 1 (renA m).1 W)
 rw [l1] at H1
 rw [l2] at H2
 rw [l3] at H3
 rw [(plain_facts (ren_plain hp (ren_ok hl))).2.2.2.2.1] at HRS
 rw [ren_ok hl] at HREN
 rw [hp] at HP
 have ht:=ren_len hl
 generalize (renA m).1=t at *
 unfold SrcRP lbA at H1
 unfold SrcRP lbB at H2
 unfold SrcRP lbC at H3
 simp only [show ((0:Nat):Int)=0 from rfl,List.append_assoc,List.cons_append,List.nil_append] at H1 H2 H3 HREN
 have d12:decide ((12:Int)<(m.length:Int))=false:=by simp;omega
 have i12:¬ (12:Int)<(m.length:Int):=by omega
 clear hp l1 l2 l3 n1 n2 n3
 go_enter Tryz.func4, Tryz.ntmps4
 go_wp2_with fail
 refine HP.out.mono ?_
 rintro r w1 ⟨rfl,hb1⟩
 have B1:=LH hb1
 clear hb1 HP
 go_wp2_with fail
 refine (HREN.out _).mono ?_
 rintro r w2 ⟨rfl,hb2⟩
 have B2:=LH (bthen B1.out hb2)
 clear hb2 HREN
 go_wp2_with fail
 refine (H1.out _ B2.out).mono ?_
 rintro r w3 ⟨rfl,hb3⟩
 have B3:=LH (bthen B2.out hb3)
 have C3:=LH (B3.out.alloc B3.out.size (.cells #[.int .i64 0,.int .i64 0] 36))
 have P3:=LH (heap_alloc_new w3 (.cells #[.int .i64 0,.int .i64 0] 36))
 clear hb3 H1
 go_wp2_with fail
 refine (H2.out _ C3.out).mono ?_
 rintro r w4 ⟨rfl,hb4⟩
 have B4:=LH (bthen C3.out hb4)
 have P4:=LH ((hb4.block w3.heap.size (by simp)).trans P3.out)
 have C4:=LH (B4.out.alloc B4.out.size (.cells #[.int .i64 0,.int .i64 0] 36))
 have Q4:=LH (heap_alloc_new w4 (.cells #[.int .i64 0,.int .i64 0] 36))
 have P4':=LH ((Below.heap_alloc w4 (.cells #[.int .i64 0,.int .i64 0] 36) w3.heap.size (loh P4.out)).trans P4.out)
 clear hb4 H2
 go_wp2_with fail
 refine (H3.out _ C4.out).mono ?_
 rintro r w5 ⟨rfl,hb5⟩
 have B5:=LH (bthen C4.out hb5)
 have P5:=LH ((hb5.block w3.heap.size (by have:=loh P4.out;simp;omega)).trans P4'.out)
 have Q5:=LH ((hb5.block w4.heap.size (by simp)).trans Q4.out)
 have C5:=LH (B5.out.alloc B5.out.size (.cells #[.int .i64 0,.int .i64 0] 36))
 have hz3:=loh P5.out
 have hz4:=loh Q5.out
 obtain ⟨p0,p1⟩:=two_box P5.out
 obtain ⟨q0,q1⟩:=two_box Q5.out
 clear hb5 H3
 go_wp2_with fail
 refine (HRS.out _).mono ?_
 rintro r w6 ⟨rfl,hb6⟩
 have B6:=LH (bthen C5.out hb6)
 clear hb6 HRS
 go_wp2_with fail
 refine (HAl.out _ B6.out).mono ?_
 rintro r w7 ⟨rfl,hb7⟩
 go_wp2_with fail
 go_ret
 exact ⟨rfl,bthen B6.out hb7⟩
theorem law19l_alive (m:List UInt8) (n:Int) (w:World) (hg:GWL w) (b:Bool) (HP:Calls Tryz.prog 10 #[.int .i64 0,.string ⟨m.toArray⟩] w fun e w'=>e=.returned (.bool b)/\Below w.heap.size w w') (hb:b=false∨12<m.length) :
  Calls Tryz.prog 4 #[.string ⟨m.toArray⟩,.int .u16 n] w fun r w'=>r=.returned (.bool true)/\Below w.heap.size w w':=by
 have HAl:=LH (fun W (hW:Below w.heap.size w W)=>alive19_any W (hg.below hW))
 have HPL:=LH HP
 clear HP
 cases b with
 | false=>
  clear hb
  go_enter Tryz.func4, Tryz.ntmps4
  go_wp2_with fail
  refine HPL.out.mono ?_
  rintro r w1 ⟨rfl,hb1⟩
  have B1:=LH hb1
  clear hb1
  go_wp2_with fail
  refine (HAl.out _ B1.out).mono ?_
  rintro r w2 ⟨rfl,hb2⟩
  go_wp2_with fail
  go_ret
  exact ⟨rfl,bthen B1.out hb2⟩
 | true=>
  have h12:12<m.length:=hb.resolve_left (by simp)
  have d12:decide ((12:Int)<(m.length:Int))=true:=by simp;omega
  have i12:(12:Int)<(m.length:Int):=by omega
  clear hb h12
  go_enter Tryz.func4, Tryz.ntmps4
  go_wp2_with fail
  refine HPL.out.mono ?_
  rintro r w1 ⟨rfl,hb1⟩
  have B1:=LH hb1
  clear hb1
  go_wp2_with fail
  refine (HAl.out _ B1.out).mono ?_
  rintro r w2 ⟨rfl,hb2⟩
  go_wp2_with fail
  go_ret
  exact ⟨rfl,bthen B1.out hb2⟩
theorem rewriteLabels_walk (m:List UInt8) (n:Int) (w:World) (hg:GWL w) :
  Calls Tryz.prog 4 #[.string ⟨m.toArray⟩,.int .u16 n] w fun r w'=>r=.returned (.bool true)/\Below w.heap.size w w':=by
 by_cases h16:16<m.length
 ·exact law19l_alive m n w hg false (Plain_long 0 m w h16) (.inl rfl)
 ·have HP:=Plain_any 0 m w (by omega) hg
  cases hp:plainB 0 m with
  | false=>rw [hp] at HP;exact law19l_alive m n w hg false HP (.inl rfl)
  | true=>
   by_cases h12:12<m.length
   ·exact law19l_alive m n w hg _ HP (.inr h12)
   ·exact law19l_good m n w hg hp (by omega)
end Go.Proofs.YtfdcigbompkeoaaGreatDoor
