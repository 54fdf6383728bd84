/- Opn. -/
import Derived.Test.YtagplldaooipmaaGreatDoorKa
import Derived.Deep.Slices
import Derived.Deep.Fields
import Derived.ChangeSame
import Derived.WideKeyArgs
import Derived.KernelRfl
import Derived.OpenShut
import Derived.Test.YtagplldaooipmaaGreatDoorUb
import Derived.ChangeSlices
namespace Go.Proofs.YtagplldaooipmaaGreatDoor
open Go.RowKit Go.ChangeShapes Go.WideShapes Go.Deep
section
variable {H:Type} {enc:TypeId × Value → H} {P:Program} {w:World} {base:Nat} {spare:Nat → Bool} {held:Bool}
end
theorem laid_out:laidOutB Tryz.prog=true:=by kernel_rfl
theorem stays {H:Type} {enc:TypeId × Value → H} {W W':World} {t:TypeId} {v:Value} {d:DataW H} {ps:List MemPlace} (hr:Tryz.prog.readableRec t=true) (hrow:t < Tryz.prog.types.size)
  (h:DataW.Trod enc Tryz.prog W 0 (fun _=>true) true t v d ps) (hlt:∀ p ∈ ps,p.block < W.heap.size) (bel:Below W.heap.size W W'):DataW.Trod enc Tryz.prog W' 0 (fun b=>decide (b < W.heap.size)) true t v d ps:=
 Go.WideElems.Trod_stays laid_out hr hrow h (fun p hp=>bel.same (hlt p hp)) (fun p hp=>by simpa using hlt p hp)
end Go.Proofs.YtagplldaooipmaaGreatDoor
/- What a slice of bytes that came in gives. -/
namespace Go.Proofs.YtagplldaooipmaaGreatDoor
open Go.ChangeShapes Go.WideShapes Go.ChangeAt Go.RowKit
set_option maxRecDepth 100000 in
theorem open_by {H:Type} {enc:TypeId × Value → H} {W:World} {base:Nat} {v:Value} {d:DataW H} {ps:List MemPlace} (hv:Value.okWide Tryz.prog W .any base 22 v)
  (h:DataW.Trod enc Tryz.prog W 0 (fun _=>true) true 22 v d ps):∃ l:List UInt8,RdB W W.heap.size v l:=by
 obtain ⟨a,len,cap,rfl⟩:=okWide_slice Tryz.underlying22 hv
 obtain ⟨fuel,hf⟩:=h
 rcases open_ints Tryz.underlying22 Tryz.underlying5 (by kernel_rfl) hf with ⟨hcs,_⟩ | ⟨a',len',cap',zs,hcs,_,hl,_,hz,_,hcell,hwz⟩
 ·simp [Value.cells] at hcs
  obtain ⟨rfl,rfl,rfl⟩:=hcs
  exact ⟨[],none,0,rfl,by simp,fun h=>absurd h (by simp)⟩
 ·simp [Value.cells] at hcs
  obtain ⟨rfl,rfl,rfl⟩:=hcs
  simp only [if_true] at hz
  have hlen:((zs.take len).map fun n=>UInt8.ofNat n.toNat).length=len:=by simp;omega
  refine ⟨(zs.take len).map fun n=>UInt8.ofNat n.toNat,some a',cap,by rw [hlen],by rw [hlen];exact hl,fun hn=>?_⟩
  rw [hlen] at hn
  obtain ⟨g,o,s⟩:=a'
  have h0:=hcell 0 (by omega)
  have hspot:s=none:=by simpa [Addr.add] using World.cell?_spot h0
  subst hspot
  have hlt:g < W.heap.size:=World.block_lt_of_cell? _ _ h0
  refine ⟨g,o,rfl,hlt,fun j u hu=>?_⟩
  have hj:j < len:=by
   have:=(List.getElem?_eq_some_iff.1 hu).1
   simp at this
   omega
  rw [← addr_add,hcell j (by omega)]
  have hb:=range_u8 hwz j
  simp only [List.getElem?_map,List.getElem?_take,hj,if_true,List.getElem?_eq_getElem (show j < zs.length by omega),Option.map_some,Option.some.injEq] at hu
  subst hu
  have e:zs[j]?.getD 0=zs[j]'(by omega):=by simp [List.getElem?_eq_getElem (show j < zs.length by omega)]
  rw [e] at hb
  rw [List.getD_eq_getElem?_getD,e]
  unfold bv
  congr 2
  simp only [UInt8.toNat_ofNat']
  omega
end Go.Proofs.YtagplldaooipmaaGreatDoor
