/-
  More small steps for walks that a program prints: of no program.
-/
import Derived.Test.YtpjefkdclnmlfaaGreatCoreH
namespace Go.Fk
open Go
set_option linter.unusedSectionVars false
variable [dr:Dr]
section
variable {P:Program}{ops:Array Oper}{Q:Exit→Act→World→Prop}{N:Nat}{E:Env}{w w0:World}{K K0:KMap}{M:List Nat}{L:List Item}{C:World→Prop}
variable {x y z:Operand}{T T' U:TypeId}{size bytes:Nat}{zero:Value}{agg:Bool}
theorem wc_forE' {σ:Type}{f:Nat→σ→Option σ}{n:Nat}{r:σ}{s0:σ}{body:Code}{E':Env}(Inv:Nat→σ→Env→World→Prop)(hrun:forE f n 0 s0=some r)(h0:Inv 0 s0 E' w)(hs:Sub E' E)
  (hround: ∀i s E w s',i<n→f i s=some s'→Inv i s E w→WC P body (Exit.then (InSt N fun E' w'=>Inv (i+1) s' E' w') Q) N E w)
  (hend: ∀s E w,s=r→Inv n s E w→WC P body (Exit.then (fun _ _=>False) Q) N E w):WC P (.loop body) Q N E w:=
 wc_sub hs (wc_forE Inv hrun h0 hround fun s E w h hI=>hend s E w h.symm hI)
theorem wc_for' {σ τ:Type}{f:Nat→σ→Option (σ⊕τ)}{n:Nat}{r:σ⊕τ}{s0:σ}{body:Code}{E':Env}(Inv:Nat→σ→Env→World→Prop)(hrun:forFrom f n 0 s0=some r)(h0:Inv 0 s0 E' w)(hs:Sub E' E)
  (hround: ∀i s E w r',i<n→f i s=some r'→(∀x,r'= .inr x→.inr x=r)→Inv i s E w→WC P body (Exit.then (InSt N fun E' w'=>∃s',r'= .inl s'∧Inv (i+1) s' E' w') Q) N E w)
  (hend: ∀s E w,.inl s=r→Inv n s E w→WC P body (Exit.then (fun _ _=>False) Q) N E w):WC P (.loop body) Q N E w:=
 wc_sub hs (wc_for Inv hrun h0 (fun i s E w r' hi hf hx hI=>hround i s E w r' hi hf (fun x e=>(hx x e).symm) hI) fun s E w h hI=>hend s E w h.symm hI)
theorem wc_while' {σ τ:Type}{f:σ→Option (σ⊕τ)}{m:Nat}{r:τ}{s0:σ}{body:Code}{E':Env}(Inv:σ→Env→World→Prop)(hrun:whileM f m s0=some r)(h0:Inv s0 E' w)(hs:Sub E' E)
  (hround: ∀s E w r',f s=some r'→(∀x,r'= .inr x→x=r)→Inv s E w→WC P body (Exit.then (InSt N fun E' w'=>∃s',r'= .inl s'∧Inv s' E' w') Q) N E w):WC P (.loop body) Q N E w:=
 wc_sub hs (wc_while Inv hrun h0 fun s E w r' hf hx hI=>hround s E w r' hf (fun x e=>(hx x e).symm) hI)
theorem rv_as {v v':Value}(hx:ev E x=some v)(e:v=v'):RV P E w (.assign x) v':=e▸rv_assign hx
theorem AtK.part {b o:Nat}{cs:List Value}(h:AtK K b o cs)(k n:Nat):AtK K b (o+k) ((cs.drop k).take n):=fun j c e=>by
 rw [List.getElem?_take] at e
 split at e
 ·rw [List.getElem?_drop] at e;rw [Nat.add_assoc];exact h _ c e
 ·cases e
theorem bytes_of (K:KMap): ∀(xs:List UInt8) (b o:Nat),(∀(i:Nat) x,xs[i]? =some x→∃u,tU8.rel K u x∧AtK K b (o+i*tU8.size) u.cells.toList)→AtK K b o (xs.map iv8):=fun xs b o h j c e=>by
 rw [List.getElem?_map] at e
 obtain⟨x,hx,rfl⟩:=Option.map_eq_some_iff.1 e
 obtain⟨u,hu,hk⟩:=h j x hx
 have hu':u=iv8 x:=hu
 subst hu'
 have:=hk 0 (iv8 x) rfl
 simpa [tU8] using this
theorem push_bytes: ∀(xs:List UInt8) (acc:ByteArray),((xs.map fun b=>(b.toNat:Int)).foldl (fun r n=>r.push (UInt8.ofNat n.toNat)) acc)=⟨acc.data++xs.toArray⟩
 | [],acc=>by simp
 | x::xs,acc=>by
  simp only [List.map_cons,List.foldl_cons]
  rw [push_bytes xs]
  simp [ByteArray.push]
theorem rv_b2s {a:Option Addr}{n c:Nat}{xs:List UInt8}(hT:P.underlying T=some (.slice U))(hU:P.underlying U=some (.int .u8))(hT':P.underlying T'=some .string)(hx:ev E x=some (.slice a n c))
  (hs:SliceAt tU8 K a n c xs)(hS:SH w0 K0 M w K L):RV P E w (.convert T T' x) (sv xs):=fun ρ _ _ _ _ _ ha=>by
 have h1:=run_convert_bytes_string (P:=P) w T T' U a n c hT hU hT'
 obtain⟨e1,e2,e3,e4⟩:=hs
 have key:(Conv.bytesToString (.slice a n c)).run P w= .ok (sv xs) w:=by
  cases a with
  | none=>
   have:xs=[]:=by
    by_cases hc:0<c
    ·obtain⟨b,o,h,_⟩:=e4 hc;cases h
    ·exact List.eq_nil_of_length_eq_zero (by omega)
   subst this
   rfl
  | some ad=>
   by_cases hc:0<c
   ·obtain⟨b,o,h,h5⟩:=e4 hc
    injection h with h
    subst h
    have h6:=bytes_of K xs b o h5
    have h7:=run_loadCells_at (P:=P) (cellsAre_K hS h6)
    rw [List.length_map,←e1] at h7
    have h8:=run_bytesToString (P:=P) w ⟨b,o,none⟩ n c (xs.map fun b=>(b.toNat:Int)) (by rw [h7,List.map_map];rfl)
    rw [h8,push_bytes]
    have e9:ByteArray.empty.data++xs.toArray=xs.toArray:=by simp
    rw [e9];rfl
   ·have:xs=[]:=List.eq_nil_of_length_eq_zero (by omega)
    subst this
    have hn:n=0:=by omega
    subst hn
    exact run_bytesToString (P:=P) w ad 0 c [] rfl
 simp only [execOp,ha x _ hx,Sem.run_bind,h1,key,Result.andThen_ok]
 rfl
end
end Go.Fk
