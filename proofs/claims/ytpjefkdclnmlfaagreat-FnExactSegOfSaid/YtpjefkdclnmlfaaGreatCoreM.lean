/-
  Whatever a row's reading of an argument takes (numbers, texts, slices, structs of them), it reads as plain data in the world that the call finds. Of no program.
-/
import Derived.Test.YtpjefkdclnmlfaaGreatCoreL
import Derived.Carry
namespace Go.Fk
open Go Go.ChangeShapes Go.WideShapes Go.ChangeAt Go.RowKit
section
variable {H:Type}{enc:TypeId×Value→H}{P:Program}{W W':World}{t e:TypeId}
def Opens {α:Type}(enc:TypeId×Value→H)(P:Program)(W:World)(t:TypeId)(T:Ty α):Prop:=
 ∀fuel cs x,DataW.trod enc P W 0 (fun _=>true) true fuel t cs=some x→∃u a,u.cells.toList=cs∧T.rel (allK W) u a
theorem opens_int (ht:P.underlying t=some (.int .i64)):Opens enc P W t tInt:=fun fuel cs x h=>by
 obtain⟨n,rfl,_,hw⟩:=DataW.trod_int ht h
 have hw': -9223372036854775808≤n∧n≤9223372036854775807:=by simpa [Lit.wf,IntKind.min,IntKind.max,IntKind.signed,IntKind.bits] using hw
 exact⟨.int .i64 n,n,rfl,rfl,hw'⟩
theorem opens_str (ht:P.underlying t=some .string):Opens enc P W t tStr:=fun fuel cs x h=>by
 obtain⟨s,rfl,_,hs⟩:=DataW.trod_string ht h
 refine⟨sv s.data.toList,s.data.toList,?_,rfl,by rw [Array.length_toList];exact hs⟩
 simp [sv,Value.cells]
theorem choose_list {α:Type}{Q:Nat→α→Prop}: ∀n,(∀i,i<n→∃x,Q i x)→∃xs:List α,xs.length=n∧∀(i:Nat) x,xs[i]? =some x→Q i x
 | 0,_=>⟨[],rfl,fun i x h=>by simp at h⟩
 | n+1,h=>by
  obtain⟨xs,hl,hx⟩:=choose_list n (fun i hi=>h i (by omega))
  obtain⟨y,hy⟩:=h n (by omega)
  refine⟨xs++[y],by simp [hl],fun i x hi=>?_⟩
  rcases Nat.lt_or_ge i n with hlt | hge
  ·rw [List.getElem?_append_left (by omega)] at hi
   exact hx i x hi
  ·have:i=n:=by
    have:=(List.getElem?_eq_some_iff.1 hi).1
    simp at this;omega
   subst this
   rw [List.getElem?_append_right (by omega),hl] at hi
   simp at hi
   subst hi
   exact hy
theorem opens_slice {α:Type}{T:Ty α}(ht:P.underlying t=some (.slice e))(hc:P.cellsOf e=T.size)(hpos:0<T.size)(he:Opens enc P W e T):Opens enc P W t (tSlice T):=fun fuel cs x h=>by
 rcases DataW.trod_slice ht h with ⟨rfl,_⟩ | ⟨a,len,cap,elems,rest,n,_,rfl,_,_,hl,hm,hlen,hel,hsp,_⟩
 ·exact⟨.slice none 0 0,[],rfl,none,0,0,rfl,rfl,Nat.le_refl _,Nat.zero_le _,fun h=>absurd h (Nat.lt_irrefl _)⟩
 ·obtain⟨hrl,hr⟩:=hsp rfl
  have each: ∀i,i<len→∃cs' y,W.cells? 0 (a.add (i*P.cellsOf e)) (P.cellsOf e)=some cs'∧DataW.trod enc P W 0 (fun _=>true) true n e cs'=some y:=fun i hi=>by
   have:=hel i hi
   rw [List.getElem?_eq_getElem (by omega),Option.bind_eq_some_iff] at this
   obtain⟨cs',h1,h2⟩:=this
   exact⟨cs',_,h1,h2⟩
  have spot:0<cap→a.spot=none:=fun h0=>by
   have hz: ∃cs',W.cells? 0 (a.add 0) (P.cellsOf e)=some cs':=by
    rcases Nat.eq_zero_or_pos len with h1 | h1
    ·subst h1
     have:=hr 0 (by omega)
     rw [List.getElem?_eq_getElem (by omega),Option.bind_eq_some_iff] at this
     obtain⟨cs',h2,_⟩:=this
     exact⟨cs',by simpa using h2⟩
    ·obtain⟨cs',_,h2,_⟩:=each 0 h1
     exact⟨cs',by simpa using h2⟩
   obtain⟨cs',h2⟩:=hz
   obtain⟨_,h3,h4⟩:=World.cells?_some h2
   have h5:=h4 0 (by omega)
   rw [List.getElem?_eq_getElem (by omega)] at h5
   have:=World.cell?_spot h5
   simpa [Addr.add] using this
  obtain⟨xs,hxl,hx⟩:=choose_list (Q:=fun i (z:α)=>∃u,T.rel (allK W) u z∧W.cells? 0 (a.add (i*T.size)) T.size=some u.cells.toList) len (fun i hi=>by
   obtain⟨cs',y,h1,h2⟩:=each i hi
   obtain⟨u,z,h3,h4⟩:=he _ _ _ h2
   exact⟨z,u,h4,by rw [h3,←hc];exact h1⟩)
  refine⟨.slice (some a) len cap,xs,rfl,some a,len,cap,rfl,hxl.symm,hl,hm,fun h0=>?_⟩
  obtain⟨b,off,sp⟩:=a
  have hs:=spot h0
  simp only at hs
  subst hs
  refine⟨b,off,rfl,fun i z hz=>?_⟩
  obtain⟨u,hu,hcl⟩:=hx i z hz
  refine⟨u,hu,fun j c hj=>?_⟩
  obtain⟨_,h3,h4⟩:=World.cells?_some hcl
  have hjl:=(List.getElem?_eq_some_iff.1 hj).1
  have h5:=h4 j (by omega)
  rw [hj,add_plain,add_plain] at h5
  exact h5
theorem take_drop_cut (cs:List Value)(o s:Nat):cs.drop o=(cs.drop o).take s++cs.drop (o+s):=by
 rw [←List.drop_drop,List.take_append_drop]
theorem open_arg {α:Type}{T:Ty α}{v:Value}{d:DataW H}{ps:List MemPlace}(ho:Opens enc P W t T)(hv: ∀u:Value,u.cells.toList=v.cells.toList→(∃a,T.rel (allK W) u a)→u=v)(h0:DataW.Trod enc P W 0 (fun _=>true) true t v d ps):
  ∃a,T.rel (allK W) v a:=by
 obtain⟨fuel,hf⟩:=h0
 obtain⟨u,a,h1,h2⟩:=ho _ _ _ hf
 exact⟨a,hv u h1 ⟨a,h2⟩▸h2⟩
end
end Go.Fk
