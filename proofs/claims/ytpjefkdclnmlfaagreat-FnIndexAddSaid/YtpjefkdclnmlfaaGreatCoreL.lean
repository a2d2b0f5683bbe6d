/-
  From a statement's row to a walk: how byte slices that are handed in lie in memory, and what is read behind the call. Of no program.
-/
import Derived.Test.YtpjefkdclnmlfaaGreatCoreK
import Derived.ChangeSlices
import Derived.ChangeSame
import Derived.OpenShut
import Derived.Below
import Derived.JoinedOf
import Derived.JoinedAt
namespace Go.Fk
open Go Go.ChangeShapes Go.WideShapes Go.ChangeAt Go.RowKit
set_option linter.unusedSectionVars false
variable [dr:Dr]
def allK (W:World):KMap:=fun b o=>W.cell? ⟨b,o,none⟩
theorem start_all (W:World):SH W (allK W) [] W (allK W) []:=SH.start (fun _ _ _ e=>e)
theorem cell_lt {W:World}{a:Addr}{v:Value}(h:W.cell? a=some v):a.block<W.heap.size:=by
 rcases Nat.lt_or_ge a.block W.heap.size with h' | h'
 ·exact h'
 ·have e:W.heap[a.block]? =none:=Array.getElem?_eq_none h'
  simp [World.cell?,e] at h
section
variable {H:Type}{enc:TypeId×Value→H}{P:Program}{W W':World}
theorem open_bytesAt {t e:TypeId}{v:Value}{d:DataW H}{ps:List MemPlace}{b0:Nat}(ht:P.underlying t=some (.slice e))(he:P.underlying e=some (.int .u8))(hc:P.cellsOf e=1)
  (hv:Value.okWide P W .any b0 t v)(h0:DataW.Trod enc P W 0 (fun _=>true) true t v d ps):
  ∃(a:Option Addr) (n c:Nat) (xs:List UInt8),v= .slice a n c∧SliceAt tU8 (allK W) a n c xs∧
   ∀W',Below W.heap.size W W'→∀sp:Nat→Bool,(∀p∈ps,sp p.block=true)→DataW.Trod enc P W' 0 sp true t v d ps:=by
 obtain⟨a0,len,cap,rfl⟩:=okWide_slice ht hv
 obtain⟨fuel,hf⟩:=h0
 rcases open_ints ht he hc hf with ⟨hcs,hx⟩ | ⟨a,len',cap',zs,hcs,_,hl,hm,hz,hx,hcell,hwz⟩
 ·simp [Value.cells] at hcs
  obtain⟨rfl,rfl,rfl⟩:=hcs
  simp only [Prod.mk.injEq] at hx
  obtain⟨rfl,rfl⟩:=hx
  exact⟨none,0,0,[],rfl,⟨rfl,Nat.le_refl _,Nat.zero_le _,fun h=>absurd h (Nat.lt_irrefl _)⟩,fun W' _ sp _=>shut_slice_nil ht⟩
 ·simp [Value.cells] at hcs
  obtain⟨rfl,rfl,rfl⟩:=hcs
  simp only [Prod.mk.injEq] at hx
  obtain⟨rfl,rfl⟩:=hx
  simp only [if_true] at hz
  refine⟨some a,len,cap,(zs.take len).map fun z=>UInt8.ofNat z.toNat,rfl,⟨by simp;omega,hl,hm,fun h=>?_⟩,fun W' hB sp hsp=>?_⟩
  ·obtain⟨b,off,spot⟩:=a
   have hspot:spot=none:=by simpa [Addr.add] using World.cell?_spot (hcell 0 (by omega))
   subst hspot
   refine⟨b,off,rfl,fun i x hx=>⟨iv8 x,rfl,fun j c hj=>?_⟩⟩
   rw [List.getElem?_map] at hx
   obtain⟨z,hz1,rfl⟩:=Option.map_eq_some_iff.1 hx
   rw [List.getElem?_take] at hz1
   split at hz1
   case isFalse=>cases hz1
   have hi:=(List.getElem?_eq_some_iff.1 hz1).1
   have hw:=hwz z (List.mem_of_getElem? hz1)
   have hz2:zs.getD i 0=z:=by rw [List.getD_eq_getElem?_getD,hz1];rfl
   have hw':0≤z∧z≤255:=by simpa [Lit.wf,IntKind.min,IntKind.max,IntKind.signed,IntKind.bits] using hw
   have hcl:=hcell i hi
   rw [add_plain,hz2] at hcl
   cases j with
   | zero=>
    simp [iv8,Value.cells] at hj
    subst hj
    have e1:((UInt8.ofNat z.toNat).toNat:Int)=z:=by simp;omega
    show W.cell? ⟨b,off+i*1+0,none⟩=_
    rw [Nat.mul_one,Nat.add_zero,hcl]
    congr 2
    omega
   | succ j=>simp [iv8,Value.cells] at hj
  ·have hcell': ∀i,i<zs.length→W'.cell? (a.add i)=some (.int .u8 (zs.getD i 0)):=fun i hi=>by
    rw [hB.cell (cell_lt (hcell i hi))];exact hcell i hi
   by_cases hz0:zs.length=0
   ·have hc0:cap=0:=by omega
    have hl0:len=0:=by omega
    subst hc0;subst hl0
    have t0:=shut_ints (enc:=enc) (w:=W') (base:=0) (spare:=sp) (held:=true) (a:=a) (len:=0) (cap:=0) (zs:=zs) 0 ht he hc (Nat.zero_le _) (Nat.le_refl _) hm (by simp [hz0]) hcell' hwz
    exact⟨2,by simpa [Value.cells] using t0⟩
   ·have hspb:sp a.block=true:=by
     have:=hsp (.cell a.block a.off) (MemPlace.mem_row.2 ⟨0,by omega,by simp⟩)
     exact this
    have t0:=shut_ints (enc:=enc) (w:=W') (base:=0) (spare:=sp) (held:=true) (a:=a) (len:=len) (cap:=cap) (zs:=zs) 0 ht he hc (Nat.zero_le _) hl hm (by simp [hspb,hz]) hcell' hwz
    exact⟨2,by simpa [Value.cells] using t0⟩
theorem post_of_below {f:Func}{s:ChangeSpec}{apart fresh handsOn again:Bool}{args:Array Value}{v:Value}{ds gs:List (DataW H)}{before pa pv:List MemPlace}
  (hW:DataW.Whole enc P f.params.toList s.vars apart W args.toList ds gs before)
  (hres: ∀(b:Nat) (sp:Nat→Bool) (hd:Bool),DataW.TrodAll enc P W' b sp hd f.resultTypes.toList (v.resultList f.resultTypes.size) (s.fn H (ds++gs)).results [])
  (hargs: ∀sp:Nat→Bool,(∀p∈before,sp p.block=true)→DataW.TrodAll enc P W' 0 sp true f.params.toList args.toList (s.fn H (ds++gs)).args pa)
  (hvars: ∀sp:Nat→Bool,(∀p∈before,sp p.block=true)→DataW.TrodVars enc P W' sp s.vars (s.fn H (ds++gs)).vars pv)
  (hps:before=pa++pv)(hB:Below W.heap.size W W')
  (hok: ∀(j:Nat) (t:TypeId) (r:Value),f.resultTypes[j]? =some t→(v.resultList f.resultTypes.size)[j]? =some r→Value.okWide P W' .any 0 t r):
  s.post enc P f apart fresh handsOn again W args v W':=by
 have hlt: ∀p∈before,p.block<W.heap.size:=hW.lt
 have hin: ∀p∈before,(fun b=>decide (b<W.heap.size)) p.block=true:=fun p hp=>by simpa using hlt p hp
 refine⟨ds,gs,before,[],pa,pv,hW,hres _ _ _,hargs _ hin,hvars _ hin,hB.frame _,fun _=>?_⟩
 obtain⟨_,_,_,_,_,hz,hn⟩:=hW
 refine⟨hok,_,_,([]++pa)++pv,⟨[]++pa,pv,trodAll_append (hargs _ (fun _ _=>rfl)) (hres _ _ _),hvars _ (fun _ _=>rfl),rfl,?_,?_⟩,?_⟩
 ·intro b off hp
  have hp':MemPlace.cell b off∈before:=by rw [hps];simpa using hp
  have:=hB.frozen (p:=⟨b,off,none⟩) (hlt _ hp')
  rw [this]
  exact hz b off hp'
 ·intro ha
  have:=hn ha
  rw [hps] at this
  simpa using this
 ·intro p hp _
  rw [hps]
  simpa using hp
end
end Go.Fk
