/- Vd. -/
import Derived.Test.YtagplldaooipmaaGreatDoorVa
import Derived.Test.YtagplldaooipmaaGreatDoorUa
namespace Go.Proofs.YtagplldaooipmaaGreatDoor
theorem hexL_fact:∀ k:Fin 16,upB (hexL k.val)=hexL k.val∧(letB (hexL k.val) || numB (hexL k.val))=true:=by decide +kernel
theorem hexL_mod (n:Nat):hexL n=hexL (n % 16):=by unfold hexL;rw [Nat.mod_mod]
theorem hexL_up (n:Nat):upB (hexL n)=hexL n:=by rw [hexL_mod];exact (hexL_fact ⟨n % 16,Nat.mod_lt _ (by decide)⟩).1
theorem hexL_let (n:Nat):(letB (hexL n) || numB (hexL n))=true:=by rw [hexL_mod];exact (hexL_fact ⟨n % 16,Nat.mod_lt _ (by decide)⟩).2
theorem label_name (n:Nat):nameB (labelD n)=true:=by
 unfold nameB labelD
 simp only [List.all_cons,hexL_let,List.length_cons,List.length_nil,List.headD_cons,List.all_nil]
 rw [show letB 76=true by decide +kernel]
 rfl
theorem label_up (n:Nat):upper (labelD n)=labelD n:=by
 unfold upper labelD
 simp only [List.map_cons,List.map_nil,hexL_up]
 rw [show upB 76=76 by decide +kernel]
theorem label_word (n:Nat):wordE (labelD n)=false:=by simp [wordE,labelD,sOR,sXOR,sAND,sNOT,sMOD,sSHL,sSHR]
theorem label_great (n:Nat):greatB (labelD n)=true:=by unfold greatB;rw [label_name,label_up];simp
theorem label_plain (d:Int) (n:Nat):plainB d (labelD n)=true:=by
 unfold plainB
 rw [label_great]
 have h1:resB d (labelD n)=false:=by unfold resB;repeat' (first | (simp [labelD,intelW,zilogW,eightW];done) | rfl | split)
 have h2:setsB (labelD n)=false:=by simp [setsB,labelD]
 rw [h1,h2];rfl
theorem rightA_num (d:Int) (op:List UInt8) (n:Nat):rightA d op (numA n)=true:=by
 have h:=right_num n 23
 simp [rightA,numA,h]
 simp [numE,namesE,namesL]
theorem rightA_mem (d:Int) (op:List UInt8) (n:Nat) (hd:d ≠ 0):rightA d op (memA n)=true:=by
 have h:=right_num n 23
 simp [rightA,memA,h,hd]
 simp [numE,namesE,namesL]
theorem rightA_word (d:Int) (op s:List UInt8) (hs:s ≠ []) (h:wordB d s=true):rightA d op (wordA s)=true:=by
 unfold rightA wordA
 simp only
 rw [if_pos hs,h]
 simp [emptyA,ex0,sameE,sameL]
theorem rightA_name (d:Int) (op:List UInt8) (n:Nat):rightA d op (nameA (labelD n))=true:=by
 have h:rightE (.mk sN 0 (labelD n) []) 24=true:=by simp [rightE,rightL,headE,bindsE,label_name,label_up,label_word]
 simp [rightA,nameA,h]
 simp [namesE,namesL,label_plain]
structure OkP (d:Int) (s:St):Prop where
 lab:s.label = []
 col:s.colon=false
 op:greatB s.op=true∧setsB s.op=false
 few:s.args.length ≤ 2
 all:∀ a ∈ s.args,rightA d s.op a=true
 no:∀ a ∈ s.args,a.e.op ≠ sN
theorem great_some {s:List UInt8} (h:greatB s=true):s ≠ []:=by rintro rfl;simp [greatB,nameB] at h
theorem OkP.right {d:Int} {s:St} (h:OkP d s) (hd:0 ≤ d∧d ≤ 2):rightS d s=0:=by
 have h1:=great_some h.op.1
 have h2:=h.few
 unfold rightS
 rw [if_neg (by simp [knownB,hd]),h.lab,h.col,h.op.1,h.op.2,if_neg (by simp),if_neg (by simp [h1]),if_neg (by simp;omega),if_neg]
 rw [Bool.not_eq_false,List.all_eq_true]
 exact h.all
theorem db_op:greatB sDB=true∧setsB sDB=false:=by decide +kernel
theorem org_op:greatB [79,82,71]=true∧setsB [79,82,71]=false:=by decide +kernel
theorem okP_db (d:Int) (n:Nat):OkP d (dbD n).1:=by
 unfold dbD
 refine ⟨rfl,rfl,db_op,by simp,fun a ha=>?_,fun a ha=>?_⟩ <;> (obtain rfl:=List.mem_singleton.1 ha)
 ·exact rightA_num d _ n
 ·simp [numA,numE,Ex.op]
def okW (d:Int) (s:List UInt8):Bool:=decide (s=sD8 ∨ s=sD16 ∨ s=sn1 ∨ s=sn2) || (decide (d ≠ 0) && decide (s=smn1 ∨ s=smn2)) || (!decide (s=smn1 ∨ s=smn2) && !decide (s = []) && wordB d s)
theorem okW_right (d:Int) (op s:List UInt8) (n:Nat) (h:okW d s=true):rightA d op (operandD s n)=true∧(operandD s n).e.op ≠ sN:=by
 unfold okW at h
 unfold operandD
 by_cases h1:s=sD8 ∨ s=sD16 ∨ s=sn1 ∨ s=sn2
 ·rw [if_pos h1];exact ⟨rightA_num d op n,by simp [numA,numE,Ex.op]⟩
 ·rw [if_neg h1]
  rw [decide_eq_false h1] at h
  by_cases h2:s=smn1 ∨ s=smn2
  ·rw [if_pos h2]
   rw [decide_eq_true h2] at h
   have hd:d ≠ 0:=by simpa using h
   exact ⟨rightA_mem d op n hd,by simp [memA,numE,Ex.op]⟩
  ·rw [if_neg h2]
   rw [decide_eq_false h2] at h
   simp only [Bool.and_false,Bool.or_false,Bool.false_or,Bool.not_false,Bool.true_and,Bool.and_eq_true,Bool.not_eq_true',decide_eq_false_iff_not] at h
   exact ⟨rightA_word d op s h.1 h.2,by simp [wordA,ex0,Ex.op]⟩
theorem names_ok:∀ k:Fin 256,size80 k.val ≠ 0 → (greatB (name80 k.val)=true∧setsB (name80 k.val)=false)∧(greatB (zname k.val)=true∧setsB (zname k.val)=false):=by decide +kernel
theorem args_ok0:∀ k:Fin 256,¬ (k.val / 64=3∧k.val % 8=7) → (args80 k.val).length ≤ 2∧(args80 k.val).all (okW 0)=true:=by decide +kernel
theorem args_ok1:∀ k:Fin 256,¬ (k.val / 64=3∧k.val % 8=7) → (zargs k.val).length ≤ 2∧(zargs k.val).all (okW 1)=true:=by decide +kernel
theorem okP_80 (d:Int) (hd:d=0 ∨ d=1) (op n:Nat) (ho:op < 256) (hs:size80 op ≠ 0):OkP d (st80 d op n):=by
 obtain ⟨h1,h2⟩:=names_ok ⟨op,ho⟩ hs
 have hnm:greatB (nm80 d op)=true∧setsB (nm80 d op)=false:=by unfold nm80;split <;> assumption
 unfold st80
 by_cases hr:op / 64=3∧op % 8=7
 ·rw [if_pos hr]
  refine ⟨rfl,rfl,hnm,by simp,fun a ha=>?_,fun a ha=>?_⟩ <;> (obtain rfl:=List.mem_singleton.1 ha)
  ·exact rightA_num d _ _
  ·simp [numA,numE,Ex.op]
 ·rw [if_neg hr]
  have h3:=args_ok0 ⟨op,ho⟩ hr
  have h4:=args_ok1 ⟨op,ho⟩ hr
  have har:(ar80 d op).length ≤ 2∧(ar80 d op).all (okW d)=true:=by
   unfold ar80
   rcases hd with rfl | rfl
   ·simpa using h3
   ·simpa using h4
  rw [List.all_eq_true] at har
  refine ⟨rfl,rfl,hnm,by simpa using har.1,fun a ha=>?_,fun a ha=>?_⟩ <;> (obtain ⟨x,hx,rfl⟩:=List.mem_map.1 ha)
  ·exact (okW_right d _ x n (har.2 x hx)).1
  ·exact (okW_right d [] x n (har.2 x hx)).2
theorem okP_first80 (d:Int) (hd:d=0 ∨ d=1) (b:List UInt8) (hb:∀ i,byteN b i < 256):OkP d (first80D d b).1:=by
 unfold first80D
 by_cases h:(read80 b).2.2 ≠ 0
 ·rw [if_pos h];exact okP_db d _
 ·rw [if_neg h]
  have h:(read80 b).2.2=0:=Classical.not_not.1 h
  obtain ⟨h1,h2⟩:(read80 b).1.1=byteN b 0∧size80 (byteN b 0) ≠ 0:=by
   unfold read80 at h ⊢
   by_cases c1:b = []
   ·rw [if_pos c1] at h;simp at h
   ·rw [if_neg c1] at h ⊢
    by_cases c2:size80 (byteN b 0)=0
    ·rw [if_pos c2] at h;simp at h
    ·rw [if_neg c2] at h ⊢
     by_cases c3:b.length < size80 (byteN b 0)
     ·rw [if_pos c3] at h;simp at h
     ·rw [if_neg c3];exact ⟨rfl,c2⟩
  exact okP_80 d hd _ _ (by rw [h1];exact hb 0) (by rw [h1];exact h2)
theorem heads_op (op d s:Nat) (h:(heads86 op d s).1 ≠ []):(1 ≤ op∧op ≤ 35) ∨ (42 ≤ op∧op ≤ 45) ∨ (48 ≤ op∧op ≤ 51):=by
 by_cases c1:(1 ≤ op∧op ≤ 35) ∨ (42 ≤ op∧op ≤ 45) ∨ (48 ≤ op∧op ≤ 51)
 ·exact c1
 ·exfalso
  apply h
  unfold heads86
  by_cases c2:op < 1
  ·rw [if_pos c2];rfl
  ·rw [if_neg c2]
   by_cases c3:s ≠ 0 ∨ op=1 ∨ op=17
   ·rw [if_pos c3]
    unfold two86
    rw [if_neg (by omega),if_neg (by omega),if_neg (by omega),if_neg (by omega),if_neg (by omega),if_pos (by omega)]
    rfl
   ·rw [if_neg c3,if_neg (by omega),if_neg (by omega),if_neg (by omega)]
    by_cases c4:d ≠ 20
    ·rw [if_pos c4];rfl
    ·rw [if_neg c4,if_neg (by omega),if_neg (by omega),if_neg (by omega),if_neg (by omega)];rfl
theorem read_ok (b:List UInt8) (h:(read86 b).2.2=0):∃ m,∃ g,g=guess86 (byteN b 0) m∧(read86 b).1=(g.1,g.2.1,g.2.2,tailN (heads86 g.1 g.2.1 g.2.2) b)∧(read86 b).2.1=size86 (heads86 g.1 g.2.1 g.2.2)∧(heads86 g.1 g.2.1 g.2.2).1 ≠ []∧size86 (heads86 g.1 g.2.1 g.2.2) ≤ b.length:=by
 unfold read86 at h ⊢
 by_cases hb:b = []
 ·rw [if_pos hb] at h;simp at h
 ·rw [if_neg hb] at h ⊢
  cases hf:(seconds86 b).findSome? (try86 b) with
  | none=>rw [hf] at h;simp at h
  | some r=>
   rw [hf] at h
   obtain ⟨m,hm,ht⟩:=List.exists_of_findSome?_eq_some hf
   simp only [Option.getD_some] at h ⊢
   refine ⟨m,_,rfl,?_⟩
   unfold try86 tryH at ht
   generalize guess86 (byteN b 0) m=g at *
   generalize heads86 g.1 g.2.1 g.2.2=H at *
   by_cases c1:hitB H b m=false
   ·rw [if_pos c1] at ht;cases ht
   ·rw [if_neg c1] at ht
    by_cases c2:b.length < size86 H
    ·rw [if_pos c2] at ht;injection ht with ht;subst ht;simp at h
    ·rw [if_neg c2] at ht
     injection ht with ht
     subst ht
     refine ⟨rfl,rfl,fun h0=>c1 ?_,by omega⟩
     simp [hitB,h0]
theorem name86_ok:∀ k:Fin 52,(1 ≤ k.val∧k.val ≤ 35) ∨ (42 ≤ k.val∧k.val ≤ 45) ∨ (48 ≤ k.val∧k.val ≤ 51) → greatB (nameL k.val)=true∧setsB (nameL k.val)=false:=by decide +kernel
theorem arg86_ok:∀ k:Fin 19,k.val ≠ 0 → okW 2 (argL k.val)=true:=by decide +kernel
theorem arg86_right (op:List UInt8) (c n:Nat) (hc:c ≤ 20):(arg86D c n).length ≤ 1∧∀ a ∈ arg86D c n,rightA 2 op a=true∧a.e.op ≠ sN:=by
 unfold arg86D
 by_cases h0:c=0
 ·rw [if_pos h0];simp
 ·rw [if_neg h0]
  by_cases h1:c=19
  ·rw [if_pos h1]
   refine ⟨by simp,fun a ha=>?_⟩
   obtain rfl:=List.mem_singleton.1 ha
   exact ⟨rightA_mem 2 op n (by decide),by simp [memA,numE,Ex.op]⟩
  ·rw [if_neg h1]
   by_cases h2:c=20
   ·rw [if_pos h2]
    refine ⟨by simp,fun a ha=>?_⟩
    obtain rfl:=List.mem_singleton.1 ha
    exact ⟨rightA_num 2 op n,by simp [numA,numE,Ex.op]⟩
   ·rw [if_neg h2]
    refine ⟨by simp,fun a ha=>?_⟩
    obtain rfl:=List.mem_singleton.1 ha
    exact okW_right 2 op _ 0 (arg86_ok ⟨c,by omega⟩ h0)
theorem okP_first86 (pl:Nat) (b:List UInt8) (hb:∀ i,byteN b i < 256):OkP 2 (first86D pl b).1:=by
 unfold first86D
 by_cases h:(read86 b).2.2 ≠ 0
 ·rw [if_pos h];exact okP_db 2 _
 ·rw [if_neg h]
  obtain ⟨m,g,hg,h1,h2,h3,_⟩:=read_ok b (Classical.not_not.1 h)
  obtain ⟨q1,q2,q3,q4⟩:=guess_le (byteN b 0) m (hb 0)
  rw [← hg] at q1 q2 q3 q4
  have hop:=heads_op _ _ _ h3
  simp only [h1]
  generalize (if jumps86 g.1=true then _ else _:Nat)=n
  have a1:=arg86_right (nameL g.1) g.2.1 n q3
  have a2:=arg86_right (nameL g.1) g.2.2 n q4
  refine ⟨rfl,rfl,name86_ok ⟨g.1,by omega⟩ hop,by simp;omega,fun a ha=>?_,fun a ha=>?_⟩ <;> rcases List.mem_append.1 ha with ha | ha
  ·exact (a1.2 a ha).1
  ·exact (a2.2 a ha).1
  ·exact (a1.2 a ha).2
  ·exact (a2.2 a ha).2
theorem okP_first (d:Int) (hd:0 ≤ d∧d ≤ 2) (pl:Nat) (b:List UInt8) (hb:∀ i,byteN b i < 256):OkP d (firstD first86D d pl b).1:=by
 unfold firstD
 by_cases h:d=2
 ·rw [if_pos h];subst h;exact okP_first86 pl b hb
 ·rw [if_neg h];exact okP_first80 d (by omega) b hb
theorem finD_right (d:Int) (hd:0 ≤ d∧d ≤ 2) (M:List Int) (p:Pc) (h:OkP d p.s):rightS d (finD M p)=0:=by
 have h1:=great_some h.op.1
 have h2:=h.few
 have hall:∀ a ∈ (finD M p).args,rightA d p.s.op a=true:=by
  unfold finD
  simp only
  split
  ·intro a ha
   rcases List.mem_append.1 ha with ha | ha
   ·exact h.all a (List.dropLast_subset _ ha)
   ·obtain rfl:=List.mem_singleton.1 ha
    exact rightA_name d _ _
  ·exact h.all
 have hlen:(finD M p).args.length ≤ 2:=by
  unfold finD
  simp only
  split
  ·simp;omega
  ·exact h2
 have hlc:((finD M p).label = []∧(finD M p).colon=false) ∨ (∃ n,(finD M p).label=labelD n∧(finD M p).colon=true):=by
  unfold finD
  simp only
  split
  ·exact .inr ⟨_,rfl,rfl⟩
  ·exact .inl ⟨h.lab,h.col⟩
 have hop:(finD M p).op=p.s.op:=rfl
 unfold rightS
 rw [if_neg (by simp [knownB,hd]),hop]
 have hA:¬ ((finD M p).args.all (rightA d p.s.op)=false):=by rw [Bool.not_eq_false,List.all_eq_true];exact hall
 rcases hlc with ⟨l1,l2⟩ | ⟨n,l1,l2⟩
 ·rw [l1,l2,h.op.1,h.op.2,if_neg (by simp),if_neg (by simp [h1]),if_neg (by simp;omega),if_neg hA]
 ·rw [l1,l2,h.op.1,h.op.2,if_neg (by simp [label_plain]),if_neg (by simp [h1]),if_neg (by simp [labelD];omega),if_neg hA]
theorem byteN_lt17r (b:List UInt8) (i:Nat):byteN b i < 256:=UInt8.toNat_lt _
theorem stmts_pieces (d n:Int) (b:List UInt8):(stmtsD first86D d n b).1 = [] ∨ ((0 ≤ d∧d ≤ 2)∧(stmtsD first86D d n b).1=orgS n.toNat :: (sweepF (firstD first86D d) b.length n.toNat b).map (finD (marksD (sweepF (firstD first86D d) b.length n.toNat b)))):=by
 unfold stmtsD
 by_cases h1:d < 0 ∨ 2 < d ∨ n < 0
 ·rw [if_pos h1];exact .inl rfl
 ·rw [if_neg h1]
  by_cases h2:65536 < b.length ∨ 65536 - (b.length:Int) < n
  ·rw [if_pos h2];exact .inl rfl
  ·rw [if_neg h2]
   by_cases h3:b = []
   ·rw [if_pos h3];exact .inl rfl
   ·rw [if_neg h3];exact .inr ⟨by omega,rfl⟩
theorem sweep_ok (d:Int) (hd:0 ≤ d∧d ≤ 2) (f pl:Nat) (b:List UInt8):∀ p ∈ sweepF (firstD first86D d) f pl b,OkP d p.s:=
 sweep_all (firstD first86D d) (fun p=>OkP d p.s) (fun pl b _=>okP_first d hd pl b (byteN_lt17r b)) f pl b
theorem okP_org (d:Int) (n:Nat):OkP d (orgS n):=by
 unfold orgS
 refine ⟨rfl,rfl,org_op,by simp,fun a ha=>?_,fun a ha=>?_⟩ <;> (obtain rfl:=List.mem_singleton.1 ha)
 ·exact rightA_num d _ n
 ·simp [numA,numE,Ex.op]
theorem stmts_right (d n:Int) (b:List UInt8):∀ s ∈ (stmtsD first86D d n b).1,rightS d s=0:=by
 intro s hs
 rcases stmts_pieces d n b with h | ⟨hd,h⟩
 ·rw [h] at hs;simp at hs
 ·rw [h] at hs
  rcases List.mem_cons.1 hs with rfl | hs
  ·exact (okP_org d _).right hd
  ·obtain ⟨p,hp,rfl⟩:=List.mem_map.1 hs
   exact finD_right d hd _ p (sweep_ok d hd _ _ _ p hp)
theorem heads_jump (op d s:Nat) (h:(heads86 op d s).1 ≠ []) (hj:jumps86 op=true):d=20:=by
 have hop:(32 ≤ op∧op ≤ 34) ∨ (42 ≤ op∧op ≤ 45) ∨ (48 ≤ op∧op ≤ 51):=by
  unfold jumps86 at hj
  simp only [Bool.or_eq_true,decide_eq_true_eq] at hj
  omega
 refine Classical.byContradiction fun hd=>h ?_
 unfold heads86
 rw [if_neg (by omega)]
 by_cases c3:s ≠ 0 ∨ op=1 ∨ op=17
 ·rw [if_pos c3]
  unfold two86
  rw [if_neg (by omega),if_neg (by omega),if_neg (by omega),if_neg (by omega),if_neg (by omega),if_pos (by omega)]
  rfl
 ·rw [if_neg c3,if_neg (by omega),if_neg (by omega),if_neg (by omega),if_pos hd]
  rfl
theorem arg86_sub (c n:Nat):∀ a ∈ arg86D c n,a.e.sub = []:=by
 intro a ha
 unfold arg86D at ha
 split at ha
 ·simp at ha
 ·split at ha
  ·obtain rfl:=List.mem_singleton.1 ha;rfl
  ·split at ha
   ·obtain rfl:=List.mem_singleton.1 ha;rfl
   ·obtain rfl:=List.mem_singleton.1 ha;exact operandD_sub _ _
theorem first86_args (pl:Nat) (b:List UInt8):(0 ≤ (first86D pl b).2.2 → (first86D pl b).1.args ≠ [])∧∀ a ∈ (first86D pl b).1.args,a.e.sub = []:=by
 unfold first86D
 by_cases h:(read86 b).2.2 ≠ 0
 ·rw [if_pos h]
  refine ⟨fun h=>by simp [dbD],fun a ha=>?_⟩
  simp [dbD] at ha;subst ha;rfl
 ·rw [if_neg h]
  obtain ⟨m,g,hg,h1,h2,h3,_⟩:=read_ok b (Classical.not_not.1 h)
  simp only [h1]
  refine ⟨fun ht=>?_,fun a ha=>?_⟩
  ·cases hj:jumps86 g.1 with
   | false=>rw [hj] at ht;simp at ht
   | true=>
    have hd:=heads_jump _ _ _ h3 hj
    rw [hd]
    simp [arg86D]
  ·rcases List.mem_append.1 ha with ha | ha
   ·exact arg86_sub _ _ a ha
   ·exact arg86_sub _ _ a ha
theorem firstX_args (d:Int) (pl:Nat) (b:List UInt8):(0 ≤ (firstD first86D d pl b).2.2 → (firstD first86D d pl b).1.args ≠ [])∧∀ a ∈ (firstD first86D d pl b).1.args,a.e.sub = []:=by
 unfold firstD
 split
 ·exact first86_args pl b
 ·exact first80_args d b (byteN_lt17r b)
theorem tailN_lt (h:H86) (b:List UInt8):tailN h b ≤ 65535:=by
 have h1:=byteN_lt17r b h.1.length
 have h2:=byteN_lt17r b (h.1.length + 1)
 unfold tailN
 repeat' (first | omega | split)
theorem first86_num (_pl:Nat) (b:List UInt8) (h:(read86 b).2.2=0):(read86 b).1.2.2.2 ≤ 65535∧(read86 b).1.1 ≤ 51∧(read86 b).1.2.1 ≤ 20∧(read86 b).1.2.2.1 ≤ 20∧(read86 b).2.1 ≤ 65535:=by
 obtain ⟨m,g,hg,h1,h2,h3,_⟩:=read_ok b h
 obtain ⟨q1,q2,q3,q4⟩:=guess_le (byteN b 0) m (byteN_lt17r b 0)
 rw [← hg] at q1 q2 q3 q4
 have hop:=heads_op _ _ _ h3
 have hl:=heads_len g.1 g.2.1 g.2.2
 rw [h1,h2]
 refine ⟨tailN_lt _ _,by simp only;omega,q3,q4,?_⟩
 unfold size86
 repeat' (first | omega | split)
theorem first86_size (pl:Nat) (b:List UInt8) (hb:b ≠ []):1 ≤ (first86D pl b).2.1∧(first86D pl b).2.1 ≤ b.length∧-1 ≤ (first86D pl b).2.2∧(first86D pl b).2.2 ≤ 65535:=by
 have hl:=List.length_pos_iff.2 hb
 unfold first86D
 by_cases h:(read86 b).2.2 ≠ 0
 ·rw [if_pos h];simp [dbD];omega
 ·rw [if_neg h]
  obtain ⟨q1,q2,q3,q4,q5⟩:=first86_num pl b (Classical.not_not.1 h)
  obtain ⟨m,g,hg,h1,h2,h3,h4⟩:=read_ok b (Classical.not_not.1 h)
  have hp:=List.length_pos_iff.2 h3
  simp only
  refine ⟨?_,by rw [h2];exact h4,?_⟩
  ·rw [h2]
   unfold size86
   repeat' (first | omega | split)
  ·split <;> omega
end Go.Proofs.YtagplldaooipmaaGreatDoor
/- The reference's forms of layers 6 and 7 (plain lists; printed by forms.py), and that their words are those of the program. -/
namespace Go.Proofs.YtagplldaooipmaaGreatDoor
def forms06:List (List UInt8):=[[78,79,80],[76,88,73,32,66,32,100,49,54],[83,84,65,88,32,66],[73,78,88,32,66],[73,78,82,32,66],[68,67,82,32,66],[77,86,73,32,66,32,100,56],[82,76,67],[],[68,65,68,32,66],[76,68,65,88,32,66],[68,67,88,32,66],[73,78,82,32,67],[68,67,82,32,67],[77,86,73,32,67,32,100,56],[82,82,67],[],[76,88,73,32,68,32,100,49,54],[83,84,65,88,32,68],[73,78,88,32,68],[73,78,82,32,68],[68,67,82,32,68],[77,86,73,32,68,32,100,56],[82,65,76],[],[68,65,68,32,68],[76,68,65,88,32,68],[68,67,88,32,68],[73,78,82,32,69],[68,67,82,32,69],[77,86,73,32,69,32,100,56],[82,65,82],[],[76,88,73,32,72,32,100,49,54],[83,72,76,68,32,100,49,54],[73,78,88,32,72],[73,78,82,32,72],[68,67,82,32,72],[77,86,73,32,72,32,100,56],[68,65,65],[],[68,65,68,32,72],[76,72,76,68,32,100,49,54],[68,67,88,32,72],[73,78,82,32,76],[68,67,82,32,76],[77,86,73,32,76,32,100,56],[67,77,65],[],[76,88,73,32,83,80,32,100,49,54],[83,84,65,32,100,49,54],[73,78,88,32,83,80],[73,78,82,32,77],[68,67,82,32,77],[77,86,73,32,77,32,100,56],[83,84,67],[],[68,65,68,32,83,80],[76,68,65,32,100,49,54],[68,67,88,32,83,80],[73,78,82,32,65],[68,67,82,32,65],[77,86,73,32,65,32,100,56],[67,77,67],[77,79,86,32,66,32,66],[77,79,86,32,66,32,67],[77,79,86,32,66,32,68],[77,79,86,32,66,32,69],[77,79,86,32,66,32,72],[77,79,86,32,66,32,76],[77,79,86,32,66,32,77],[77,79,86,32,66,32,65],[77,79,86,32,67,32,66],[77,79,86,32,67,32,67],[77,79,86,32,67,32,68],[77,79,86,32,67,32,69],[77,79,86,32,67,32,72],[77,79,86,32,67,32,76],[77,79,86,32,67,32,77],[77,79,86,32,67,32,65],[77,79,86,32,68,32,66],[77,79,86,32,68,32,67],[77,79,86,32,68,32,68],[77,79,86,32,68,32,69],[77,79,86,32,68,32,72],[77,79,86,32,68,32,76],[77,79,86,32,68,32,77],[77,79,86,32,68,32,65],[77,79,86,32,69,32,66],[77,79,86,32,69,32,67],[77,79,86,32,69,32,68],[77,79,86,32,69,32,69],[77,79,86,32,69,32,72],[77,79,86,32,69,32,76],[77,79,86,32,69,32,77],[77,79,86,32,69,32,65],[77,79,86,32,72,32,66],[77,79,86,32,72,32,67],[77,79,86,32,72,32,68],[77,79,86,32,72,32,69],[77,79,86,32,72,32,72],[77,79,86,32,72,32,76],[77,79,86,32,72,32,77],[77,79,86,32,72,32,65],[77,79,86,32,76,32,66],[77,79,86,32,76,32,67],[77,79,86,32,76,32,68],[77,79,86,32,76,32,69],[77,79,86,32,76,32,72],[77,79,86,32,76,32,76],[77,79,86,32,76,32,77],[77,79,86,32,76,32,65],[77,79,86,32,77,32,66],[77,79,86,32,77,32,67],[77,79,86,32,77,32,68],[77,79,86,32,77,32,69],[77,79,86,32,77,32,72],[77,79,86,32,77,32,76],[72,76,84],[77,79,86,32,77,32,65],[77,79,86,32,65,32,66],[77,79,86,32,65,32,67],[77,79,86,32,65,32,68],[77,79,86,32,65,32,69],[77,79,86,32,65,32,72],[77,79,86,32,65,32,76],[77,79,86,32,65,32,77],[77,79,86,32,65,32,65],[65,68,68,32,66],[65,68,68,32,67],[65,68,68,32,68],[65,68,68,32,69],[65,68,68,32,72],[65,68,68,32,76],[65,68,68,32,77],[65,68,68,32,65],[65,68,67,32,66],[65,68,67,32,67],[65,68,67,32,68],[65,68,67,32,69],[65,68,67,32,72],[65,68,67,32,76],[65,68,67,32,77],[65,68,67,32,65],[83,85,66,32,66],[83,85,66,32,67],[83,85,66,32,68],[83,85,66,32,69],[83,85,66,32,72],[83,85,66,32,76],[83,85,66,32,77],[83,85,66,32,65],[83,66,66,32,66],[83,66,66,32,67],[83,66,66,32,68],[83,66,66,32,69],[83,66,66,32,72],[83,66,66,32,76],[83,66,66,32,77],[83,66,66,32,65],[65,78,65,32,66],[65,78,65,32,67],[65,78,65,32,68],[65,78,65,32,69],[65,78,65,32,72],[65,78,65,32,76],[65,78,65,32,77],[65,78,65,32,65],[88,82,65,32,66],[88,82,65,32,67],[88,82,65,32,68],[88,82,65,32,69],[88,82,65,32,72],[88,82,65,32,76],[88,82,65,32,77],[88,82,65,32,65],[79,82,65,32,66],[79,82,65,32,67],[79,82,65,32,68],[79,82,65,32,69],[79,82,65,32,72],[79,82,65,32,76],[79,82,65,32,77],[79,82,65,32,65],[67,77,80,32,66],[67,77,80,32,67],[67,77,80,32,68],[67,77,80,32,69],[67,77,80,32,72],[67,77,80,32,76],[67,77,80,32,77],[67,77,80,32,65],[82,78,90],[80,79,80,32,66],[74,78,90,32,100,49,54],[74,77,80,32,100,49,54],[67,78,90,32,100,49,54],[80,85,83,72,32,66],[65,68,73,32,100,56],[82,83,84,32,48],[82,90],[82,69,84],[74,90,32,100,49,54],[],[67,90,32,100,49,54],[67,65,76,76,32,100,49,54],[65,67,73,32,100,56],[82,83,84,32,49],[82,78,67],[80,79,80,32,68],[74,78,67,32,100,49,54],[79,85,84,32,100,56],[67,78,67,32,100,49,54],[80,85,83,72,32,68],[83,85,73,32,100,56],[82,83,84,32,50],[82,67],[],[74,67,32,100,49,54],[73,78,32,100,56],[67,67,32,100,49,54],[],[83,66,73,32,100,56],[82,83,84,32,51],[82,80,79],[80,79,80,32,72],[74,80,79,32,100,49,54],[88,84,72,76],[67,80,79,32,100,49,54],[80,85,83,72,32,72],[65,78,73,32,100,56],[82,83,84,32,52],[82,80,69],[80,67,72,76],[74,80,69,32,100,49,54],[88,67,72,71],[67,80,69,32,100,49,54],[],[88,82,73,32,100,56],[82,83,84,32,53],[82,80],[80,79,80,32,80,83,87],[74,80,32,100,49,54],[68,73],[67,80,32,100,49,54],[80,85,83,72,32,80,83,87],[79,82,73,32,100,56],[82,83,84,32,54],[82,77],[83,80,72,76],[74,77,32,100,49,54],[69,73],[67,77,32,100,49,54],[],[67,80,73,32,100,56],[82,83,84,32,55]]
def forms07:List (List UInt8):=[[78,79,80],[76,68,32,66,67,32,110,110],[76,68,32,40,66,67,41,32,65],[73,78,67,32,66,67],[73,78,67,32,66],[68,69,67,32,66],[76,68,32,66,32,110],[82,76,67,65],[],[65,68,68,32,72,76,32,66,67],[76,68,32,65,32,40,66,67,41],[68,69,67,32,66,67],[73,78,67,32,67],[68,69,67,32,67],[76,68,32,67,32,110],[82,82,67,65],[],[76,68,32,68,69,32,110,110],[76,68,32,40,68,69,41,32,65],[73,78,67,32,68,69],[73,78,67,32,68],[68,69,67,32,68],[76,68,32,68,32,110],[82,76,65],[],[65,68,68,32,72,76,32,68,69],[76,68,32,65,32,40,68,69,41],[68,69,67,32,68,69],[73,78,67,32,69],[68,69,67,32,69],[76,68,32,69,32,110],[82,82,65],[],[76,68,32,72,76,32,110,110],[76,68,32,40,110,110,41,32,72,76],[73,78,67,32,72,76],[73,78,67,32,72],[68,69,67,32,72],[76,68,32,72,32,110],[68,65,65],[],[65,68,68,32,72,76,32,72,76],[76,68,32,72,76,32,40,110,110,41],[68,69,67,32,72,76],[73,78,67,32,76],[68,69,67,32,76],[76,68,32,76,32,110],[67,80,76],[],[76,68,32,83,80,32,110,110],[76,68,32,40,110,110,41,32,65],[73,78,67,32,83,80],[73,78,67,32,40,72,76,41],[68,69,67,32,40,72,76,41],[76,68,32,40,72,76,41,32,110],[83,67,70],[],[65,68,68,32,72,76,32,83,80],[76,68,32,65,32,40,110,110,41],[68,69,67,32,83,80],[73,78,67,32,65],[68,69,67,32,65],[76,68,32,65,32,110],[67,67,70],[76,68,32,66,32,66],[76,68,32,66,32,67],[76,68,32,66,32,68],[76,68,32,66,32,69],[76,68,32,66,32,72],[76,68,32,66,32,76],[76,68,32,66,32,40,72,76,41],[76,68,32,66,32,65],[76,68,32,67,32,66],[76,68,32,67,32,67],[76,68,32,67,32,68],[76,68,32,67,32,69],[76,68,32,67,32,72],[76,68,32,67,32,76],[76,68,32,67,32,40,72,76,41],[76,68,32,67,32,65],[76,68,32,68,32,66],[76,68,32,68,32,67],[76,68,32,68,32,68],[76,68,32,68,32,69],[76,68,32,68,32,72],[76,68,32,68,32,76],[76,68,32,68,32,40,72,76,41],[76,68,32,68,32,65],[76,68,32,69,32,66],[76,68,32,69,32,67],[76,68,32,69,32,68],[76,68,32,69,32,69],[76,68,32,69,32,72],[76,68,32,69,32,76],[76,68,32,69,32,40,72,76,41],[76,68,32,69,32,65],[76,68,32,72,32,66],[76,68,32,72,32,67],[76,68,32,72,32,68],[76,68,32,72,32,69],[76,68,32,72,32,72],[76,68,32,72,32,76],[76,68,32,72,32,40,72,76,41],[76,68,32,72,32,65],[76,68,32,76,32,66],[76,68,32,76,32,67],[76,68,32,76,32,68],[76,68,32,76,32,69],[76,68,32,76,32,72],[76,68,32,76,32,76],[76,68,32,76,32,40,72,76,41],[76,68,32,76,32,65],[76,68,32,40,72,76,41,32,66],[76,68,32,40,72,76,41,32,67],[76,68,32,40,72,76,41,32,68],[76,68,32,40,72,76,41,32,69],[76,68,32,40,72,76,41,32,72],[76,68,32,40,72,76,41,32,76],[72,65,76,84],[76,68,32,40,72,76,41,32,65],[76,68,32,65,32,66],[76,68,32,65,32,67],[76,68,32,65,32,68],[76,68,32,65,32,69],[76,68,32,65,32,72],[76,68,32,65,32,76],[76,68,32,65,32,40,72,76,41],[76,68,32,65,32,65],[65,68,68,32,65,32,66],[65,68,68,32,65,32,67],[65,68,68,32,65,32,68],[65,68,68,32,65,32,69],[65,68,68,32,65,32,72],[65,68,68,32,65,32,76],[65,68,68,32,65,32,40,72,76,41],[65,68,68,32,65,32,65],[65,68,67,32,65,32,66],[65,68,67,32,65,32,67],[65,68,67,32,65,32,68],[65,68,67,32,65,32,69],[65,68,67,32,65,32,72],[65,68,67,32,65,32,76],[65,68,67,32,65,32,40,72,76,41],[65,68,67,32,65,32,65],[83,85,66,32,66],[83,85,66,32,67],[83,85,66,32,68],[83,85,66,32,69],[83,85,66,32,72],[83,85,66,32,76],[83,85,66,32,40,72,76,41],[83,85,66,32,65],[83,66,67,32,65,32,66],[83,66,67,32,65,32,67],[83,66,67,32,65,32,68],[83,66,67,32,65,32,69],[83,66,67,32,65,32,72],[83,66,67,32,65,32,76],[83,66,67,32,65,32,40,72,76,41],[83,66,67,32,65,32,65],[65,78,68,32,66],[65,78,68,32,67],[65,78,68,32,68],[65,78,68,32,69],[65,78,68,32,72],[65,78,68,32,76],[65,78,68,32,40,72,76,41],[65,78,68,32,65],[88,79,82,32,66],[88,79,82,32,67],[88,79,82,32,68],[88,79,82,32,69],[88,79,82,32,72],[88,79,82,32,76],[88,79,82,32,40,72,76,41],[88,79,82,32,65],[79,82,32,66],[79,82,32,67],[79,82,32,68],[79,82,32,69],[79,82,32,72],[79,82,32,76],[79,82,32,40,72,76,41],[79,82,32,65],[67,80,32,66],[67,80,32,67],[67,80,32,68],[67,80,32,69],[67,80,32,72],[67,80,32,76],[67,80,32,40,72,76,41],[67,80,32,65],[82,69,84,32,78,90],[80,79,80,32,66,67],[74,80,32,78,90,32,110,110],[74,80,32,110,110],[67,65,76,76,32,78,90,32,110,110],[80,85,83,72,32,66,67],[65,68,68,32,65,32,110],[82,83,84,32,48],[82,69,84,32,90],[82,69,84],[74,80,32,90,32,110,110],[],[67,65,76,76,32,90,32,110,110],[67,65,76,76,32,110,110],[65,68,67,32,65,32,110],[82,83,84,32,56],[82,69,84,32,78,67],[80,79,80,32,68,69],[74,80,32,78,67,32,110,110],[79,85,84,32,40,110,41,32,65],[67,65,76,76,32,78,67,32,110,110],[80,85,83,72,32,68,69],[83,85,66,32,110],[82,83,84,32,49,54],[82,69,84,32,67],[],[74,80,32,67,32,110,110],[73,78,32,65,32,40,110,41],[67,65,76,76,32,67,32,110,110],[],[83,66,67,32,65,32,110],[82,83,84,32,50,52],[82,69,84,32,80,79],[80,79,80,32,72,76],[74,80,32,80,79,32,110,110],[69,88,32,40,83,80,41,32,72,76],[67,65,76,76,32,80,79,32,110,110],[80,85,83,72,32,72,76],[65,78,68,32,110],[82,83,84,32,51,50],[82,69,84,32,80,69],[74,80,32,40,72,76,41],[74,80,32,80,69,32,110,110],[69,88,32,68,69,32,72,76],[67,65,76,76,32,80,69,32,110,110],[],[88,79,82,32,110],[82,83,84,32,52,48],[82,69,84,32,80],[80,79,80,32,65,70],[74,80,32,80,32,110,110],[68,73],[67,65,76,76,32,80,32,110,110],[80,85,83,72,32,65,70],[79,82,32,110],[82,83,84,32,52,56],[82,69,84,32,77],[76,68,32,83,80,32,72,76],[74,80,32,77,32,110,110],[69,73],[67,65,76,76,32,77,32,110,110],[],[67,80,32,110],[82,83,84,32,53,54]]
def wordsF:List UInt8 → List UInt8 → List (List UInt8) → List (List UInt8)
 | [],w,acc=>if w = [] then acc else acc ++ [w]
 | c :: r,w,acc=>if c=32 then wordsF r [] (acc ++ [w]) else wordsF r (w ++ [c]) acc
def wordsR (s:List UInt8):List (List UInt8):=wordsF s [] []
theorem forms06_len:forms06.length=256:=by decide +kernel
theorem forms07_len:forms07.length=256:=by decide +kernel
theorem forms06_words:∀ k:Fin 256,wordsR (forms06.getD k.val [])=words80 k.val:=by decide +kernel
theorem forms07_words:∀ k:Fin 256,wordsR (forms07.getD k.val [])=zform k.val:=by decide +kernel
theorem forms06_short:∀ s ∈ forms06,s.length ≤ 20:=by decide +kernel
theorem forms07_short:∀ s ∈ forms07,s.length ≤ 20:=by decide +kernel
end Go.Proofs.YtagplldaooipmaaGreatDoor
/- The reference's pieces, labels and statements of layer 17, in plain Lean, and that they are those of the program. -/
namespace Go.Proofs.YtagplldaooipmaaGreatDoor
structure Rp where
 pl:Nat
 size:Nat
 op:List UInt8
 args:List Ar
 jumps:Bool
 tn:Nat
 b:Nat
def rpOf (pl:Nat) (x:St × Nat × Int) (bad:Bool) (n c:Nat):Rp:=
 if bad then ⟨pl,1,[],[],false,0,c⟩ else ⟨pl,x.2.1,x.1.op,x.1.args,decide (0 ≤ x.2.2),n,0⟩
def rp80 (d:Int) (pl:Nat) (b:List UInt8):Rp:=rpOf pl (first80D d b) (decide ((read80 b).2.2 ≠ 0)) (read80 b).1.2 (byteN b 0)
def rp86 (pl:Nat) (b:List UInt8):Rp:=rpOf pl (first86D pl b) (decide ((read86 b).2.2 ≠ 0)) (if jumps86 (read86 b).1.1 then (first86D pl b).2.2.toNat else 0) (byteN b 0)
def rpX (d:Int) (pl:Nat) (b:List UInt8):Rp:=if d=2 then rp86 pl b else rp80 d pl b
def piecesR (f:Nat → List UInt8 → Rp):Nat → Nat → List UInt8 → List Rp
 | 0,_,_=>[]
 | k + 1,pl,b=>if b = [] then [] else f pl b :: piecesR f k (pl + (f pl b).size) (b.drop (f pl b).size)
def pcR (r:Rp):Pc:=if r.op = [] then ⟨(dbD r.b).1,r.pl,r.size,-1⟩ else ⟨⟨[],false,r.op,r.args⟩,r.pl,r.size,if r.jumps then (r.tn:Int) else -1⟩
theorem rpOf_pc (pl:Nat) (x:St × Nat × Int) (bad:Bool) (n c:Nat) (hb:bad=true → x=dbD c) (hg:bad=false → x.1.op ≠ []∧x.1.label = []∧x.1.colon=false∧(0 ≤ x.2.2 → x.2.2=n)∧-1 ≤ x.2.2):pcR (rpOf pl x bad n c)=⟨x.1,pl,x.2.1,x.2.2⟩:=by
 cases bad with
 | true=>rw [hb rfl];rfl
 | false=>
  obtain ⟨h1,h2,h3,h4,h5⟩:=hg rfl
  obtain ⟨⟨a1,a2,a3,a4⟩,a5,a6⟩:=x
  simp only at *
  subst h2;subst h3
  unfold rpOf pcR
  simp only [Bool.false_eq_true,if_false]
  rw [if_neg h1]
  by_cases h0:0 ≤ a6
  ·rw [if_pos (by simpa using h0),h4 h0]
  ·rw [if_neg (by simpa using h0)]
   have:a6 = -1:=by omega
   rw [this]
theorem first80_to (d:Int) (b:List UInt8) (hk:(read80 b).2.2=0):(0 ≤ (first80D d b).2.2 → (first80D d b).2.2=((read80 b).1.2:Int))∧-1 ≤ (first80D d b).2.2:=by
 unfold first80D
 rw [if_neg (by simp [hk])]
 simp only
 split
 ·exact ⟨fun _=>rfl,by omega⟩
 ·exact ⟨fun h=>by omega,by omega⟩
theorem rpX_pc (d:Int) (hd:0 ≤ d∧d ≤ 2) (pl:Nat) (b:List UInt8):pcR (rpX d pl b)=⟨(firstD first86D d pl b).1,pl,(firstD first86D d pl b).2.1,(firstD first86D d pl b).2.2⟩:=by
 unfold rpX firstD
 by_cases h:d=2
 ·rw [if_pos h,if_pos h]
  refine rpOf_pc _ _ _ _ _ (fun hb=>?_) (fun hb=>?_)
  ·unfold first86D;rw [if_pos (by simpa using hb)]
  ·have hk:(read86 b).2.2=0:=by simpa using hb
   have ok:=okP_first86 pl b (byteN_lt17r b)
   refine ⟨great_some ok.op.1,ok.lab,ok.col,fun h0=>?_,?_⟩
   ·unfold first86D at h0 ⊢
    rw [if_neg (by simp [hk])] at h0 ⊢
    simp only at h0 ⊢
    cases hj:jumps86 (read86 b).1.1 with
    | false=>rw [hj] at h0;simp at h0
    | true=>simp;omega
   ·unfold first86D
    rw [if_neg (by simp [hk])]
    simp only
    split <;> omega
 ·rw [if_neg h,if_neg h]
  refine rpOf_pc _ _ _ _ _ (fun hb=>?_) (fun hb=>?_)
  ·unfold first80D;rw [if_pos (by simpa using hb)]
  ·have hk:(read80 b).2.2=0:=by simpa using hb
   have ok:=okP_first80 d (by omega) b (byteN_lt17r b)
   exact ⟨great_some ok.op.1,ok.lab,ok.col,first80_to d b hk⟩
theorem rpX_pl (d:Int) (pl:Nat) (b:List UInt8):(rpX d pl b).pl=pl∧(rpX d pl b).size=(firstD first86D d pl b).2.1:=by
 unfold rpX firstD
 by_cases h:d=2
 ·rw [if_pos h,if_pos h]
  unfold rp86 rpOf
  by_cases hb:(read86 b).2.2 ≠ 0
  ·rw [if_pos (by simpa using hb)];unfold first86D;rw [if_pos hb];exact ⟨rfl,rfl⟩
  ·rw [if_neg (by simpa using hb)];exact ⟨rfl,rfl⟩
 ·rw [if_neg h,if_neg h]
  unfold rp80 rpOf
  by_cases hb:(read80 b).2.2 ≠ 0
  ·rw [if_pos (by simpa using hb)];unfold first80D;rw [if_pos hb];exact ⟨rfl,rfl⟩
  ·rw [if_neg (by simpa using hb)];exact ⟨rfl,rfl⟩
theorem pieces_pc (d:Int) (hd:0 ≤ d∧d ≤ 2):∀ f pl b,(piecesR (rpX d) f pl b).map pcR=sweepF (firstD first86D d) f pl b
 | 0,_,_=>rfl
 | f + 1,pl,b=>by
  unfold piecesR sweepF
  by_cases hb:b = []
  ·rw [if_pos hb,if_pos hb];rfl
  ·rw [if_neg hb,if_neg hb,List.map_cons,rpX_pc d hd,pieces_pc d hd f,(rpX_pl d pl b).2]
def goesR (r:Rp) (x:Nat):Bool:=decide (r.op ≠ []) && (r.jumps && decide (r.tn=x))
theorem goesR_pc (r:Rp) (x:Nat):goesR r x=decide ((pcR r).tg=(x:Int)):=by
 unfold goesR pcR
 by_cases h:r.op = []
 ·rw [if_pos h];simp [h]
 ·rw [if_neg h]
  cases r.jumps with
  | false=>simp
  | true=>simp [h];omega
def labelsK (l:List Rp):List Rp → List Nat → List Nat
 | [],out=>out
 | r :: t,out=>if 1000 ≤ out.length then out else labelsK l t (if l.any (fun q=>goesR q r.pl) then out ++ [r.pl] else out)
def labelsR (l:List Rp):List Nat:=labelsK l l []
theorem labelsK_eq (l:List Rp):∀ (t:List Rp) (out:List Nat),out.length ≤ 1000 → labelsK l t out=(out ++ (t.filter (fun r=>l.any (fun q=>goesR q r.pl))).map (·.pl)).take 1000
 | [],out,h=>by simp [labelsK,List.take_of_length_le h]
 | r :: t,out,h=>by
  unfold labelsK
  by_cases h1:1000 ≤ out.length
  ·rw [if_pos h1,List.take_append_of_le_length h1,List.take_of_length_le (by omega)]
  ·rw [if_neg h1]
   by_cases h2:l.any (fun q=>goesR q r.pl)=true
   ·rw [if_pos h2,labelsK_eq l t _ (by simp;omega),List.filter_cons_of_pos (p:=fun r:Rp=>l.any (fun q=>goesR q r.pl)) h2];simp
   ·rw [if_neg h2,labelsK_eq l t out h,List.filter_cons_of_neg (p:=fun r:Rp=>l.any (fun q=>goesR q r.pl)) h2]
theorem any_goes (l:List Rp) (x:Nat):l.any (fun q=>goesR q x)=decide ((x:Int) ∈ (l.map pcR).map (·.tg)):=by
 rw [Bool.eq_iff_iff,List.any_eq_true,decide_eq_true_iff,List.map_map]
 constructor
 ·rintro ⟨q,hq,h⟩
  rw [goesR_pc,decide_eq_true_iff] at h
  exact List.mem_map.2 ⟨q,hq,h⟩
 ·intro h
  obtain ⟨q,hq,h⟩:=List.mem_map.1 h
  exact ⟨q,hq,by rw [goesR_pc,decide_eq_true_iff];exact h⟩
theorem pcR_pl (r:Rp):(pcR r).pl=r.pl:=by unfold pcR;split <;> rfl
theorem labelsR_marks (l:List Rp):(labelsR l).map (fun n:Nat=>(n:Int))=marksD (l.map pcR):=by
 unfold labelsR marksD
 rw [labelsK_eq l l [] (by simp),List.nil_append,List.map_take]
 congr 1
 rw [List.map_map,List.map_map,List.filter_map]
 have:(fun r:Rp=>l.any (fun q=>goesR q r.pl))=((fun x=>decide (x ∈ (l.map pcR).map (·.tg))) ∘ ((fun p:Pc=>(p.pl:Int)) ∘ pcR)):=by
  funext r
  simp only [Function.comp,pcR_pl]
  exact any_goes l r.pl
 rw [this,List.filter_map]
 simp only [List.map_map]
 exact List.map_congr_left (fun r _=>by simp [Function.comp,pcR_pl])
def stR (M:List Nat) (r:Rp):St:=
 ⟨if r.pl ∈ M then labelD r.pl else [],decide (r.pl ∈ M),if r.op = [] then sDB else r.op,
  if r.jumps∧r.tn ∈ M then (if r.op = [] then [numA r.b] else r.args).dropLast ++ [nameA (labelD r.tn)] else if r.op = [] then [numA r.b] else r.args⟩
theorem stR_fin (M:List Nat) (r:Rp) (hj:r.op = [] → r.jumps=false):stR M r=finD (M.map fun n:Nat=>(n:Int)) (pcR r):=by
 have hm:∀ x:Nat,(x:Int) ∈ M.map (fun n:Nat=>(n:Int)) ↔ x ∈ M:=by
  intro x
  rw [List.mem_map]
  constructor
  ·rintro ⟨y,hy,h⟩;obtain rfl:y=x:=by omega
   exact hy
  ·intro h;exact ⟨x,h,rfl⟩
 have hn:(-1:Int) ∉ M.map (fun n:Nat=>(n:Int)):=by
  intro h;obtain ⟨y,_,h⟩:=List.mem_map.1 h;omega
 unfold stR finD pcR
 by_cases ho:r.op = []
 ·simp only [ho,if_true,hj ho,Bool.false_eq_true,false_and,if_false,hn,hm,dbD]
  by_cases hp:r.pl ∈ M <;> simp [hp]
 ·simp only [ho,if_false,hm]
  cases hjj:r.jumps with
  | false=>
   simp only [Bool.false_eq_true,false_and,if_false,hn]
   by_cases hp:r.pl ∈ M <;> simp [hp]
  | true=>
   simp only [if_true,true_and,hm,Int.toNat_natCast]
   by_cases hp:r.pl ∈ M <;> by_cases ht:r.tn ∈ M <;> simp [hp,ht]
def stmtsR (d n:Int) (b:List UInt8):List St:=
 orgS n.toNat :: (piecesR (rpX d) b.length n.toNat b).map (stR (labelsR (piecesR (rpX d) b.length n.toNat b)))
theorem rpX_db (d:Int) (hd:0 ≤ d∧d ≤ 2) (pl:Nat) (b:List UInt8) (h:(rpX d pl b).op = []):(rpX d pl b).jumps=false:=by
 unfold rpX at h ⊢
 by_cases h2:d=2
 ·rw [if_pos h2] at h ⊢
  unfold rp86 rpOf at h ⊢
  by_cases hb:(read86 b).2.2 ≠ 0
  ·rw [if_pos (by simpa using hb)]
  ·rw [if_neg (by simpa using hb)] at h
   exact absurd h (great_some (okP_first86 pl b (byteN_lt17r b)).op.1)
 ·rw [if_neg h2] at h ⊢
  unfold rp80 rpOf at h ⊢
  by_cases hb:(read80 b).2.2 ≠ 0
  ·rw [if_pos (by simpa using hb)]
  ·rw [if_neg (by simpa using hb)] at h
   exact absurd h (great_some (okP_first80 d (by omega) b (byteN_lt17r b)).op.1)
theorem pieces_all (f:Nat → List UInt8 → Rp) (P:Rp → Prop) (h:∀ pl b,b ≠ [] → P (f pl b)):∀ k pl b,∀ p ∈ piecesR f k pl b,P p
 | 0,_,_,p,hp=>by simp [piecesR] at hp
 | k + 1,pl,b,p,hp=>by
  unfold piecesR at hp
  by_cases hb:b = []
  ·rw [if_pos hb] at hp;simp at hp
  ·rw [if_neg hb] at hp
   rcases List.mem_cons.1 hp with rfl | hp
   ·exact h pl b hb
   ·exact pieces_all f P h k _ _ p hp
theorem stmtsR_eq (d n:Int) (b:List UInt8) (hd:0 ≤ d∧d ≤ 2) (hn:0 ≤ n) (hl:b.length ≤ 65536) (ho:n ≤ 65536 - (b.length:Int)) (hb:b ≠ []):(stmtsD first86D d n b)=(stmtsR d n b,0):=by
 unfold stmtsD stmtsR
 rw [if_neg (by omega),if_neg (by omega),if_neg hb,← pieces_pc d hd,List.map_map]
 congr 2
 apply List.map_congr_left
 intro r hr
 rw [← labelsR_marks]
 exact (stR_fin _ r (pieces_all (rpX d) (fun r=>r.op = [] → r.jumps=false) (fun pl b _=>rpX_db d hd pl b) _ _ _ r hr)).symm
end Go.Proofs.YtagplldaooipmaaGreatDoor
/- The reference's Read of layer 8 against the program's, in plain Lean: a form whose bytes are there is the one that is read, and no other. -/
namespace Go.Proofs.YtagplldaooipmaaGreatDoor
def fullR (b:List UInt8) (h:H86):Bool:=!decide (h.1 = []) && decide (h.1.map UInt8.ofNat=b.take h.1.length) && decide (size86 h ≤ b.length)
def oneG (op d s:Nat):Bool:=match (heads86 op d s).1 with
 | [x]=>decide (x < 256) && (List.range 256).all fun m=>guess86 x m == (op,d,s)
 | [x,y]=>decide (x < 256) && decide (y < 256) && guess86 x y == (op,d,s)
 | _=>true
def lineG (op:Nat):Bool:=(List.range 21).all fun d=>(List.range 21).all fun s=>oneG op d s
theorem linesG:∀ op:Fin 52,op.val=0 ∨ lineG op.val=true:=by decide +kernel
theorem head_bytes (op d s:Nat) (ho:1 ≤ op∧op ≤ 51) (hd:d ≤ 20) (hs:s ≤ 20):oneG op d s=true:=by
 have h:=(linesG ⟨op,by omega⟩).resolve_left (by simp only;omega)
 unfold lineG at h
 have h2:=List.all_eq_true.1 h d (List.mem_range.2 (by omega))
 exact List.all_eq_true.1 h2 s (List.mem_range.2 (by omega))
theorem u8_ofNat (x:Nat) (h:x < 256):(UInt8.ofNat x).toNat=x:=by simp;omega
theorem size_len (h:H86):h.1.length ≤ size86 h:=by unfold size86;repeat' (first | omega | split)
theorem guess_full (op d s:Nat) (ho:1 ≤ op∧op ≤ 51) (hd:d ≤ 20) (hs:s ≤ 20) (b:List UInt8) (h:fullR b (heads86 op d s)=true) (m:Nat) (hm:m < 256) (hm2:1 < b.length → m=byteN b 1) :
  guess86 (byteN b 0) m=(op,d,s)∧((heads86 op d s).1.length=2 → (UInt8.ofNat ((heads86 op d s).1.getD 1 0)).toNat=m):=by
 have hg:=head_bytes op d s ho hd hs
 have hl:=(heads_len op d s).1
 have hsz:=size_len (heads86 op d s)
 unfold oneG at hg
 unfold fullR at h
 simp only [Bool.and_eq_true,Bool.not_eq_true',decide_eq_false_iff_not,decide_eq_true_eq] at h
 obtain ⟨⟨h1,h2⟩,h3⟩:=h
 generalize size86 (heads86 op d s)=sz at *
 generalize (heads86 op d s).1=H at *
 match H with
 | []=>exact absurd rfl h1
 | [x]=>
  simp only [Bool.and_eq_true,decide_eq_true_eq,List.all_eq_true,List.mem_range,beq_iff_eq] at hg
  cases b with
  | nil=>simp at h2
  | cons c r=>
   simp only [List.map_cons,List.map_nil,List.length_cons,List.length_nil,Nat.zero_add,List.take_succ_cons,List.take_zero,List.cons.injEq,and_true] at h2
   refine ⟨?_,fun h=>by simp at h⟩
   have:byteN (c :: r) 0=x:=by unfold byteN;simp only [List.getD_cons_zero];rw [← h2];exact u8_ofNat x hg.1
   rw [this]
   exact hg.2 m hm
 | [x,y]=>
  simp only [Bool.and_eq_true,decide_eq_true_eq,beq_iff_eq] at hg
  simp only [List.length_cons,List.length_nil] at hsz
  match b with
  | []=>simp at h2
  | [c]=>simp at h2
  | c :: c' :: r=>
   simp only [List.map_cons,List.map_nil,List.length_cons,List.length_nil,Nat.zero_add,List.take_succ_cons,List.take_zero,List.cons.injEq,and_true] at h2
   have e0:byteN (c :: c' :: r) 0=x:=by unfold byteN;simp only [List.getD_cons_zero];rw [← h2.1];exact u8_ofNat x hg.1.1
   have e1:byteN (c :: c' :: r) 1=y:=by unfold byteN;simp only [List.getD_cons_succ,List.getD_cons_zero];rw [← h2.2];exact u8_ofNat y hg.1.2
   have em:=hm2 (by simp)
   rw [e1] at em
   subst em
   rw [e0]
   exact ⟨hg.2,fun _=>u8_ofNat m hg.1.2⟩
 | _ :: _ :: _ :: _=>simp at hl
theorem try_full (op d s:Nat) (ho:1 ≤ op∧op ≤ 51) (hd:d ≤ 20) (hs:s ≤ 20) (b:List UInt8) (h:fullR b (heads86 op d s)=true) (m:Nat) (hm:m < 256) (hm2:1 < b.length → m=byteN b 1) :
  try86 b m=some ((op,d,s,tailN (heads86 op d s) b),size86 (heads86 op d s),0):=by
 obtain ⟨hg,h2⟩:=guess_full op d s ho hd hs b h m hm hm2
 unfold fullR at h
 simp only [Bool.and_eq_true,Bool.not_eq_true',decide_eq_false_iff_not,decide_eq_true_eq] at h
 obtain ⟨⟨h1,h3⟩,h4⟩:=h
 have hsz:=size_len (heads86 op d s)
 unfold try86
 rw [hg]
 simp only
 have hp:=List.length_pos_iff.2 h1
 unfold tryH
 rw [if_neg,if_neg (by omega)]
 unfold hitB
 rw [Nat.min_eq_left (by omega)]
 have e1:List.take (heads86 op d s).1.length (List.map UInt8.ofNat (heads86 op d s).1)=List.take (heads86 op d s).1.length b:=by
  rw [← h3,List.take_of_length_le (by simp)]
 rw [e1]
 by_cases hl:(heads86 op d s).1.length=2
 ·rw [h2 hl];simp;omega
 ·simp [hl];omega
theorem read_full (op d s:Nat) (ho:1 ≤ op∧op ≤ 51) (hd:d ≤ 20) (hs:s ≤ 20) (b:List UInt8) (h:fullR b (heads86 op d s)=true) :
  read86 b=((op,d,s,tailN (heads86 op d s) b),size86 (heads86 op d s),0):=by
 have hb:b ≠ []:=by
  rintro rfl
  unfold fullR at h
  simp at h
 have hp:=List.length_pos_iff.2 hb
 unfold read86
 rw [if_neg hb]
 unfold seconds86
 by_cases h1:1 < b.length
 ·rw [if_pos h1,List.findSome?_cons,try_full op d s ho hd hs b h _ (byteN_lt17r b 1) (fun _=>rfl)];rfl
 ·rw [if_neg h1,show List.range 256=0 :: (List.range' 1 255) by decide +kernel,List.findSome?_cons,try_full op d s ho hd hs b h 0 (by omega) (fun h=>absurd h h1)];rfl
theorem read_some (b:List UInt8) (h:(read86 b).2.2=0):∃ op d s,(1 ≤ op∧op ≤ 51)∧d ≤ 20∧s ≤ 20∧fullR b (heads86 op d s)=true:=by
 unfold read86 at h
 by_cases hb:b = []
 ·rw [if_pos hb] at h;simp at h
 ·rw [if_neg hb] at h
  cases hf:(seconds86 b).findSome? (try86 b) with
  | none=>rw [hf] at h;simp at h
  | some r=>
   rw [hf] at h
   obtain ⟨m,hm,ht⟩:=List.exists_of_findSome?_eq_some hf
   simp only [Option.getD_some] at h
   unfold try86 tryH at ht
   obtain ⟨q1,q2,q3,q4⟩:=guess_le (byteN b 0) m (byteN_lt17r b 0)
   generalize guess86 (byteN b 0) m=g at *
   by_cases c1:hitB (heads86 g.1 g.2.1 g.2.2) b m=false
   ·rw [if_pos c1] at ht;cases ht
   ·rw [if_neg c1] at ht
    by_cases c2:b.length < size86 (heads86 g.1 g.2.1 g.2.2)
    ·rw [if_pos c2] at ht;injection ht with ht;subst ht;simp at h
    ·have c1:hitB (heads86 g.1 g.2.1 g.2.2) b m=true:=by simpa using c1
     have hne:(heads86 g.1 g.2.1 g.2.2).1 ≠ []:=fun h0=>by simp [hitB,h0] at c1
     have hop:=heads_op _ _ _ hne
     have hsz:=size_len (heads86 g.1 g.2.1 g.2.2)
     refine ⟨g.1,g.2.1,g.2.2,by omega,q3,q4,?_⟩
     unfold hitB at c1
     rw [Nat.min_eq_left (by omega),List.take_of_length_le (by simp)] at c1
     simp only [Bool.and_eq_true,decide_eq_true_eq] at c1
     unfold fullR
     simp only [Bool.and_eq_true,Bool.not_eq_true',decide_eq_false_iff_not,decide_eq_true_eq]
     exact ⟨⟨hne,c1.1.2⟩,by omega⟩
end Go.Proofs.YtagplldaooipmaaGreatDoor
