/- QAlloc. -/
import Derived.Test.YtagplldaooipmaaGreatDoorKa
import Derived.StillTail
import Derived.StillTactics
import Derived.Lib.QuietBelow
import Derived.KernelRfl
namespace Go.Proofs.YtagplldaooipmaaGreatDoor
open Go.RowKit
def Grown (w W:World):Prop:=∃ p:Regrown,W=Go.Sort.grow (redrawn w p.d) p.os
theorem Grown.of {w W:World} (h:Below w.heap.size w W):Grown w W:=regrown_of_below h
theorem Grown.below {w W:World} (h:Grown w W):Below w.heap.size w W:=by obtain ⟨p,rfl⟩:=h;exact below_regrown _ _ _
theorem Grown.trans {w W V:World} (h:Grown w W) (h':Grown W V):Grown w V:=.of (bthen h.below h'.below)
theorem Grown.refl (w:World):Grown w w:=.of (Below.refl _ _)
section
variable {P:Program} {ops:Array Oper} {md:Region.Mode} {w0:World}
theorem quietUpon_mono {C C':World → Prop} {w:World} {v:Value} (hC:∀ x,C x → C' x):∀ r,Oper.quietUpon P C w v r → Oper.quietUpon P C' w v r:=by
 intro r h
 cases r with
 | ok n w'=>
  cases n <;> simp only [Oper.quietUpon] at h ⊢
  case value u=>exact h
  case skip=>exact h
  case enter f args=>exact ⟨h.1,h.2.mono fun e w'' ⟨he,hw⟩=>⟨he,hC _ hw⟩⟩
 | halt x w'=>simp only [Oper.quietUpon] at h
def growsO (P:Program) (w0:World) (o:Oper) (a:Act) (v:Value):Prop:=∀ W,Grown w0 W → Oper.quietAt P o a (Grown W) W v
def wpG (P:Program) (ops:Array Oper) (w0:World) (Q:Act → Prop):List Oper → Act → Prop
 | [],a=>Q a
 | o :: rest,a=>if Region.wanted o (yielded ops a.tmps) then (∃ v,growsO P w0 o a v∧wpG P ops w0 Q rest (a.put o.dst v)) else wpG P ops w0 Q rest (a.put o.dst undef)
theorem wpG_nil {Q:Act → Prop} {a:Act} (h:Q a):wpG P ops w0 Q [] a:=h
theorem wpG_step {Q:Act → Prop} {a:Act} {o:Oper} {rest:List Oper}
  (h:∀ K:Act → Prop,(∀ a,wpG P ops w0 Q rest a → K a) → if Region.wanted o (yielded ops a.tmps) then (∃ v,(∀ W,(∃ p:Regrown,W=Go.Sort.grow (redrawn w0 p.d) p.os) → Oper.quietAt P o a (Grown W) W v)∧K (a.put o.dst v)) else K (a.put o.dst undef)):wpG P ops w0 Q (o :: rest) a:=
 h _ (fun _ h=>h)
def gOp (P:Program) (ops:Array Oper) (w0:World) (i:Nat) (K:Act → Prop) (a:Act):Prop:=
 match ops[i]? with
 | none=>K a
 | some o=>if Region.wanted o (yielded ops a.tmps) then (∃ v,growsO P w0 o a v∧K (a.put o.dst v)) else K (a.put o.dst undef)
theorem gOp_mono {i:Nat} {a:Act} {K K':Act → Prop} (h:∀ a,K a → K' a) (hh:gOp P ops w0 i K a):gOp P ops w0 i K' a:=by
 unfold gOp at *
 split
 ·exact h _ (by simpa [*] using hh)
 ·rename_i o ho
  simp only [ho] at hh
  split
  ·rename_i hw;simp only [hw,if_true] at hh;obtain ⟨v,h1,h2⟩:=hh;exact ⟨v,h1,h _ h2⟩
  ·rename_i hw;simp only [hw] at hh;exact h _ hh
theorem wpOp_of_gOp {i:Nat} {a:Act} {K:Act → Prop} {K':Act → World → Prop} {Q':Exit → Act → World → Prop} {W:World} (hW:Grown w0 W) (h:∀ a' w',Grown W w' → K a' → K' a' w') (hh:gOp P ops w0 i K a):wpOp P ops Q' i K' a W:=by
 refine wpOp_of_qOp (C:=Grown W) (K:=K) (.refl W) h ?_
 unfold gOp at hh
 unfold qOp
 split
 ·rename_i ho;simpa [ho] using hh
 ·rename_i o ho
  simp only [ho] at hh
  split
  ·rename_i hw
   simp only [hw,if_true] at hh
   obtain ⟨v,h1,h2⟩:=hh
   exact ⟨v,fun V hV=>quietUpon_mono (fun x hx=>hV.trans hx) _ (h1 V (hW.trans hV)),h2⟩
  ·rename_i hw;simpa [hw] using hh
def YieldsG (P:Program) (ops:Array Oper) (w0:World) (o:Oper) (v:Value) (a:Act):Prop:=
 (Region.wanted o (yielded ops a.tmps)=true∧growsO P w0 o a v) ∨ (Region.wanted o (yielded ops a.tmps)=false∧v=undef)
theorem YieldsG.gOp {i:Nat} {o:Oper} {v:Value} {a:Act} (hi:ops[i]? = some o) (hy:YieldsG P ops w0 o v a) {K:Act → Prop} (h:K (a.put o.dst v)):gOp P ops w0 i K a:=by
 unfold Go.Proofs.YtagplldaooipmaaGreatDoor.gOp
 simp only [hi]
 rcases hy with ⟨hw,hv⟩ | ⟨hw,rfl⟩
 ·simp only [hw,if_true];exact ⟨v,hv,h⟩
 ·simp only [hw,Bool.false_eq_true,if_false];exact h
theorem YieldsG.of_same {o:Oper} {v:Value} {a a':Act} (hy:YieldsG P ops w0 o v a) (he:execOp a'.eval o=execOp a.eval o)
  (hw:Region.wanted o (yielded ops a'.tmps)=Region.wanted o (yielded ops a.tmps)):YieldsG P ops w0 o v a':=by
 unfold YieldsG growsO Oper.quietAt at *
 rw [he,hw]
 exact hy
theorem yieldsG_of_gOp {i:Nat} {o:Oper} {a:Act} {K:Act → Prop} (hi:ops[i]? = some o) (h:gOp P ops w0 i K a):∃ v,YieldsG P ops w0 o v a∧K (a.put o.dst v):=by
 unfold gOp at h
 simp only [hi] at h
 by_cases hw:Region.wanted o (yielded ops a.tmps)=true
 ·simp only [hw,if_true] at h
  obtain ⟨v,h1,h2⟩:=h
  exact ⟨v,.inl ⟨hw,h1⟩,h2⟩
 ·simp only [hw] at h
  exact ⟨undef,.inr ⟨by simpa using hw,rfl⟩,h⟩
theorem gOp_put {j:Nat} {oi oj:Oper} {v:Value} (hj:ops[j]? = some oj) (hap:oi.apart ops oj=true)
  (hsi:∀ cs b,oi.op ≠ .select cs b) (hsj:∀ cs b,oj.op ≠ .select cs b) {K:Act → Prop} {a:Act}
  (hy:YieldsG P ops w0 oi v a) (h:gOp P ops w0 j K (a.put oi.dst v)) :
  gOp P ops w0 j (fun a'=>YieldsG P ops w0 oi v a'∧K (a'.put oi.dst v)) a:=by
 obtain ⟨h1,h2,h3⟩:=Oper.apart_spec hap
 have keep:∀ (a:Act),YieldsG P ops w0 oi v a → ∀ u,YieldsG P ops w0 oi v (a.put oj.dst u):=fun a hy u=>
  hy.of_same (execOp_put oi hsi a oj.dst u h3) (wanted_put oi a oj.dst u h3)
 unfold gOp at *
 simp only [hj] at *
 rw [wanted_put oj a oi.dst v h1] at h
 split
 ·rename_i hw
  simp only [hw,if_true] at h
  obtain ⟨u,hu,hn⟩:=h
  refine ⟨u,fun w hw'=>?_,keep a hy u,by rw [← Act.put_comm a v u h2];exact hn⟩
  have:=hu w hw'
  unfold Oper.quietAt at *
  rwa [execOp_put oj hsj a oi.dst v h1] at this
 ·rename_i hw
  simp only [hw] at h
  exact ⟨keep a hy _,by rw [← Act.put_comm a v undef h2];exact h⟩
theorem gOp_beside {j:Nat} {oi oj:Oper} {v:Value} (hj:ops[j]? = some oj) (hap:oi.apart ops oj=true) (hsj:∀ cs b,oj.op ≠ .select cs b) {K:Act → Prop} {a:Act} (h:gOp P ops w0 j K a) :
  gOp P ops w0 j (fun a'=>∃ b,a'=b.put oi.dst v∧K b) (a.put oi.dst v):=by
 obtain ⟨h1,h2,h3⟩:=Oper.apart_spec hap
 unfold gOp at *
 simp only [hj] at *
 rw [wanted_put oj a oi.dst v h1]
 split
 ·rename_i hw
  simp only [hw,if_true] at h
  obtain ⟨u,hu,hn⟩:=h
  refine ⟨u,fun w hw'=>?_,_,Act.put_comm a v u h2,hn⟩
  have:=hu w hw'
  unfold Oper.quietAt at *
  rwa [execOp_put oj hsj a oi.dst v h1]
 ·rename_i hw
  simp only [hw] at h
  exact ⟨_,Act.put_comm a v undef h2,h⟩
def wpAnyG (P:Program) (md:Region.Mode) (ops:Array Oper) (w0:World) (n:Nat) (L:Array Bool → Act → Prop):Nat → Array Bool → Act → Prop
 | 0,listed,a=>L listed a
 | f + 1,listed,a=>
  Region.ready md ops listed ≠ []∧∀ i ∈ Region.ready md ops listed,i < n∧gOp P ops w0 i (wpAnyG P md ops w0 n L f (listed.setIfInBounds i true)) a
theorem wpAnyG_first {n i:Nat} {oi:Oper} {v:Value} {L:Array Bool → Act → Prop} (hi:ops[i]? = some oi) (hsel:∀ (j:Nat) (o:Oper) cs b,ops[j]? = some o → o.op ≠ .select cs b)
  (hs:Region.sinkB md ops n=true) (hc:Region.chainB md ops n=true) (hn:n < ops.size) (hin:i < n)
  (hdone:∀ listed a,L listed a → ∀ j ∈ Region.ready md ops listed,n ≤ j) :
  ∀ (f:Nat) (listed:Array Bool) (a:Act),HeadInv md ops n listed →
   (∀ j oj,ops[j]? = some oj → j ≠ i → listed.getD j true=false → (∀ e ∈ oj.after,Region.binds md e=true → e.on ≠ i) → oi.apart ops oj=true) →
   i ∈ Region.ready md ops listed → YieldsG P ops w0 oi v a →
   wpAnyG P md ops w0 n L f (listed.setIfInBounds i true) (a.put oi.dst v) → wpAnyG P md ops w0 n L (f + 1) listed a:=by
 intro f
 induction f with
 | zero=>
  intro listed a inv _ hr hy H
  have hun:=(mem_ready.1 hr).1
  refine ⟨List.ne_nil_of_mem hr,fun j hj=>?_⟩
  have hjn:j < n:=Nat.lt_of_not_le fun h=>tail_waits hs hc hn inv _ i rfl hin hun j h hj
  refine ⟨hjn,?_⟩
  by_cases hji:j=i
  ·subst hji;exact hy.gOp hi H
  ·exact absurd (hdone _ _ H j (ready_mono hj hji)) (by omega)
 | succ f ih=>
  intro listed a inv hfree hr hy H
  have hun:=(mem_ready.1 hr).1
  refine ⟨List.ne_nil_of_mem hr,fun j hj=>?_⟩
  have hjn:j < n:=Nat.lt_of_not_le fun h=>tail_waits hs hc hn inv _ i rfl hin hun j h hj
  refine ⟨hjn,?_⟩
  by_cases hji:j=i
  ·subst hji;exact hy.gOp hi H
  ·have h1:=(H.2 j (ready_mono hj hji)).2
   obtain ⟨hjun,oj,hoj,hall⟩:=mem_ready.1 hj
   have hnot:∀ e ∈ oj.after,Region.binds md e=true → e.on ≠ i:=fun e he hb heq=>by
    have h1:=hall e he hb
    rw [heq,getD_both hun] at h1
    cases h1
   have h2:=gOp_put hoj (hfree j oj hoj hji hjun hnot) (fun cs b=>hsel i oi cs b hi) (fun cs b=>hsel j oj cs b hoj) hy h1
   have hfree':∀ k ok,ops[k]? = some ok → k ≠ i → (listed.setIfInBounds j true).getD k true=false →
     (∀ e ∈ ok.after,Region.binds md e=true → e.on ≠ i) → oi.apart ops ok=true:=fun k ok hk hki hun2 hno=>by
    refine hfree k ok hk hki ?_ hno
    by_cases hjk:j=k
    ·subst hjk;exact hjun
    ·rw [getD_set_ne true hjk] at hun2;exact hun2
   refine gOp_mono (fun a' h3=>ih (listed.setIfInBounds j true) a' (inv.set hj hjn) hfree' (ready_mono hr (Ne.symm hji)) h3.1 ?_) h2
   rw [Array.setIfInBounds_comm _ _ hji]
   exact h3.2
def lexHeadA (md:Region.Mode) (ops:Array Oper) (g n:Nat):Nat → Nat → Array Bool → Bool
 | 0,_,listed=>Region.seqB md ops g n listed
 | f + 1,k,listed=>(Region.ready md ops listed).contains k && Region.free md ops listed k && lexHeadA md ops g n f (k + 1) (listed.setIfInBounds k true)
theorem wpAnyG_lex {m n g:Nat} {Lq:Act → Prop} (hmn:m ≤ n) (hsel:Region.noSelect ops=true) (hs:Region.sinkB md ops n=true) (hc:Region.chainB md ops n=true) (hn:n < ops.size) :
  ∀ (l:List Oper) (k:Nat) (listed:Array Bool) (a:Act),(∀ j,j < l.length → l[j]? = ops[k + j]?) → k + l.length=m → HeadInv md ops n listed →
  lexHeadA md ops g n l.length k listed=true → wpG P ops w0 Lq l a →
  wpAnyG P md ops w0 n (fun listed' a'=>Region.seqB md ops g n listed'=true∧Lq a') l.length listed a
 | [],k,listed,a,_,_,_,hB,h=>⟨by simpa [lexHeadA] using hB,h⟩
 | o :: l,k,listed,a,hl,hk,inv,hB,h=>by
  have h0:ops[k]? = some o:=by simpa using (hl 0 (by simp)).symm
  simp only [List.length_cons,lexHeadA,Bool.and_eq_true] at hB
  obtain ⟨⟨hr,hf⟩,hB'⟩:=hB
  have hkn:k < n:=by simp only [List.length_cons] at hk;omega
  have hr':k ∈ Region.ready md ops listed:=by simpa using hr
  have hst:gOp P ops w0 k (wpG P ops w0 Lq l) a:=by unfold gOp;simp only [h0];exact h
  obtain ⟨v,hy,hK⟩:=yieldsG_of_gOp h0 hst
  exact wpAnyG_first h0 (Region.noSelect_spec hsel) hs hc hn hkn (fun listed' a' hL=>seqB_ready hL.1) l.length listed a inv (Region.free_spec h0 hf) hr' hy
   (wpAnyG_lex hmn hsel hs hc hn l (k + 1) _ _ (fun j hj=>by have:=hl (j + 1) (by simp;omega);simpa [Nat.add_assoc,Nat.add_comm 1 j] using this) (by simp only [List.length_cons] at hk;omega) (inv.set hr' hkn) hB' hK)
theorem wpAny_boxed {n g:Nat} {om:Oper} {v:Value} {L:Array Bool → Act → Prop} {Q':Exit → Act → World → Prop} {w1:World} (h01:Grown w0 w1) (hsel:∀ (j:Nat) (o:Oper) cs b,ops[j]? = some o → o.op ≠ .select cs b)
  (m:Nat) (hap2:∀ j oj,j < n → j ≠ m → ops[j]? = some oj → om.apart ops oj=true)
  (hL:∀ listed a W,Grown w1 W → L listed a → wpAny P md ops Q' g listed (a.put om.dst v) W) :
  ∀ (f:Nat) (listed:Array Bool) (a:Act) (W:World),listed.getD m true=true → Grown w1 W → wpAnyG P md ops w0 n L f listed a → wpAny P md ops Q' (f + g) listed (a.put om.dst v) W
 | 0,listed,a,W,_,hW,h=>by rw [Nat.zero_add];exact hL _ _ _ hW h
 | f + 1,listed,a,W,hm,hW,h=>by
  rw [show f + 1 + g=(f + g) + 1 by omega]
  refine ⟨fun h0=>absurd h0 h.1,fun i hi=>?_⟩
  obtain ⟨hin,hg⟩:=h.2 i hi
  obtain ⟨hiu,oi,hoi,_⟩:=mem_ready.1 hi
  have him:i ≠ m:=fun h=>by rw [h,hm] at hiu;cases hiu
  refine wpOp_of_gOp (h01.trans hW) (fun a' w' hw' h'=>?_) (gOp_beside (v:=v) hoi (hap2 i oi hin him hoi) (hsel i oi · · hoi) hg)
  obtain ⟨b,rfl,hb⟩:=h'
  exact wpAny_boxed h01 hsel m hap2 hL f _ b w' (by rw [getD_set_ne true him];exact hm) (hW.trans hw') hb
theorem wpAny_unboxed {m n g:Nat} {om:Oper} {box:Obj} {L:Array Bool → Act → Prop} {Q':Exit → Act → World → Prop} (hom:ops[m]? = some om) (haf:om.after=#[]) (hmn:m < n) (hsel:∀ (j:Nat) (o:Oper) cs b,ops[j]? = some o → o.op ≠ .select cs b)
  (hwait:Region.waitsFor md ops n m=true) (hap:∀ j oj,j < n → j ≠ m → ops[j]? = some oj → om.apart ops oj=true)
  (hbox:∀ (K:Act → World → Prop) (a:Act) (W:World),K (a.put om.dst (.pointer (some ⟨W.heap.size,0,none⟩))) (W.alloc box) → wpOp P ops Q' m K a W)
  (hdone:∀ listed a,L listed a → ∀ j ∈ Region.ready md ops listed,j=n)
  (hL:∀ listed a V W,Grown w0 V → Grown (V.alloc box) W → L listed a → wpAny P md ops Q' g listed (a.put om.dst (.pointer (some ⟨V.heap.size,0,none⟩))) W) :
  ∀ (f:Nat) (listed:Array Bool) (a:Act) (W:World),listed.getD m true=false → Grown w0 W → wpAnyG P md ops w0 n L f (listed.setIfInBounds m true) a → wpAny P md ops Q' (f + 1 + g) listed a W:=by
 intro f
 induction f with
 | zero=>
  intro listed a W hm hW h
  rw [show 0 + 1 + g=(0 + g) + 1 by omega]
  refine ⟨fun h0=>?_,fun i hi=>?_⟩
  ·have:m ∈ Region.ready md ops listed:=mem_ready.2 ⟨hm,om,hom,fun e he=>by rw [haf] at he;simp at he⟩
   rw [h0] at this
   cases this
  ·by_cases him:i=m
   ·subst him
    refine hbox _ _ _ ?_
    exact wpAny_boxed (w1:=W.alloc box) (hW.trans (.of ((Below.refl _ _).alloc (Nat.le_refl _) _))) hsel i hap (fun l a' V hV hl=>hL l a' W V hW hV hl) 0 _ a _ (by simp [Array.getD_eq_getD_getElem?]) (.refl _) h
   ·have:=hdone _ _ h i (ready_mono hi him)
    subst this
    obtain ⟨_,on,hon,hall⟩:=mem_ready.1 hi
    obtain ⟨o',ho',e,he,hb,heq⟩:=Region.waitsFor_spec hwait
    obtain rfl:o'=on:=Option.some.inj (ho'.symm.trans hon)
    have h2:=hall e he hb
    rw [heq,getD_both hm] at h2
    cases h2
 | succ f ih=>
  intro listed a W hm hW h
  rw [show f + 1 + 1 + g=(f + 1 + g) + 1 by omega]
  refine ⟨fun h0=>?_,fun i hi=>?_⟩
  ·have:m ∈ Region.ready md ops listed:=mem_ready.2 ⟨hm,om,hom,fun e he=>by rw [haf] at he;simp at he⟩
   rw [h0] at this
   cases this
  ·by_cases him:i=m
   ·subst him
    refine hbox _ _ _ ?_
    exact wpAny_boxed (w1:=W.alloc box) (hW.trans (.of ((Below.refl _ _).alloc (Nat.le_refl _) _))) hsel i hap (fun l a' V hV hl=>hL l a' W V hW hV hl) (f + 1) _ a _ (by simp [Array.getD_eq_getD_getElem?]) (.refl _) h
   ·obtain ⟨hin,hg⟩:=h.2 i (ready_mono hi him)
    refine wpOp_of_gOp hW (fun a' w' hw' h'=>?_) hg
    refine ih (listed.setIfInBounds i true) a' w' (by rw [getD_set_ne true him];exact hm) (hW.trans hw') ?_
    rw [Array.setIfInBounds_comm _ _ him]
    exact h'
def boxB (md:Region.Mode) (l:List Oper) (m:Nat):Bool:=
 Region.noSelect l.toArray && decide (m + 2=l.length) && Region.sinkB md l.toArray (m + 1) && Region.chainB md l.toArray (m + 1) && Region.waitsFor md l.toArray (m + 1) m &&
 ((l[m]?).any fun om=>om.after.isEmpty && (List.range (m + 1)).all fun j=>decide (j=m) || (l[j]?).all fun oj=>om.apart l.toArray oj) &&
 lexHeadA md l.toArray 1 (m + 1) m 0 ((Array.replicate l.length false).setIfInBounds m true)
theorem wp_region_box {id:Nat} {Q:Exit → Act → World → Prop} {a:Act} {w:World} {l:List Oper} (m:Nat) (om:Oper) (box:Obj) (hm:P.follows .mixedOrders=true) (hom:l[m]? = some om) (hB:boxB .any l m=true)
  (hbox:∀ (K:Act → World → Prop) (a:Act) (W:World),K (a.put om.dst (.pointer (some ⟨W.heap.size,0,none⟩))) (W.alloc box) → wpOp P l.toArray Q m K a W)
  (h:wpG P l.toArray w (fun a'=>∀ V W,Grown w V → Grown (V.alloc box) W → wpList P l.toArray Q (l.drop (m + 1)) (a'.put om.dst (.pointer (some ⟨V.heap.size,0,none⟩))) W) (l.take m) a):(Code.region id l.toArray true).wp P Q a w:=by
 simp only [boxB,Bool.and_eq_true,decide_eq_true_eq,hom,Option.any_some,Array.isEmpty_iff] at hB
 obtain ⟨⟨⟨⟨⟨⟨hsel,hn⟩,hs⟩,hc⟩,hwait⟩,haf,hap⟩,hlex⟩:=hB
 have hap':∀ j oj,j < m + 1 → j ≠ m → l.toArray[j]? = some oj → om.apart l.toArray oj=true:=fun j oj hj hjm hoj=>by
  have h1:=List.all_eq_true.1 hap j (List.mem_range.2 hj)
  have hoj':l[j]? = some oj:=by simpa using hoj
  simp only [Bool.or_eq_true,decide_eq_true_eq,hoj',Option.all_some] at h1
  exact h1.resolve_left hjm
 have htl:(l.take m).length=m:=by simp;omega
 have hsz:l.toArray.size=l.length:=by simp
 have inv0:HeadInv .any l.toArray (m + 1) ((Array.replicate l.length false).setIfInBounds m true):=by
  refine ⟨by simp,fun j oj hj hl e he _=>?_,fun t ht ht'=>?_⟩
  ·by_cases hjm:m=j
   ·subst hjm
    obtain rfl:om=oj:=Option.some.inj (hom.symm.trans (by simpa using hj))
    rw [haf] at he
    simp at he
   ·rw [getD_set_ne false hjm,getD_replicate_false] at hl
    cases hl
  ·rw [getD_set_ne true (by omega)]
   exact getD_in (by simpa using ht') (getD_replicate_false _ _)
 have H:=wpAnyG_lex (w0:=w) (md:=.any) (m:=m) (n:=m + 1) (g:=1) (by omega) hsel hs hc (by omega) (l.take m) 0 _ a (fun j hj=>by
  have hj':j < m:=by rw [htl] at hj;exact hj
  simp [hj']) (by simpa using htl) inv0 (by rw [htl];exact hlex) h
 refine wp_region_any hm ?_
 have K:=wpAny_unboxed (P:=P) (ops:=l.toArray) (md:=.any) (w0:=w) (m:=m) (n:=m + 1) (g:=1) (om:=om) (box:=box) (Q':=Q) (L:=fun listed' a'=>Region.seqB .any l.toArray 1 (m + 1) listed'=true∧∀ V W,Grown w V → Grown (V.alloc box) W → wpList P l.toArray Q (l.drop (m + 1)) (a'.put om.dst (.pointer (some ⟨V.heap.size,0,none⟩))) W) (by simpa using hom) haf (by omega) (Region.noSelect_spec hsel) hwait hap' hbox
  (fun listed a' hL j hj=>by
   have h1:=hL.1
   simp only [Region.seqB,Bool.and_eq_true,decide_eq_true_eq] at h1
   rw [h1.1] at hj
   simpa using hj)
  (fun listed a' V W hV hW hL=>by
   have hdl:(l.drop (m + 1)).length=1:=by simp;omega
   have h3:=wpAny_of_seq (Q':=Q) (l.drop (m + 1)) (m + 1) listed _ W (fun j=>by simp [List.getElem?_drop]) (by rw [hdl];exact hL.1) (hL.2 V W hV hW)
   rwa [hdl] at h3) m (Array.replicate l.length false) a { w with drawn:=w.drawn + 1 } (getD_in (by simp;omega) (getD_replicate_false _ _)) ⟨⟨w.drawn + 1,#[]⟩,by rw [Go.Sort.grow_empty];rfl⟩ (by rw [htl] at H;exact H)
 rw [show m + 1 + 1=l.toArray.size by omega] at K
 exact K
end
end Go.Proofs.YtagplldaooipmaaGreatDoor
