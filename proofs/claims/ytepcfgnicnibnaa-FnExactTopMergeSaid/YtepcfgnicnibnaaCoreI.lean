/-
  More small steps for walks that a program prints: of no program.
-/
import Derived.Test.YtepcfgnicnibnaaCoreH
namespace Go.Fk
open Go
set_option linter.unusedSectionVars false
variable [dr:Dr]
section
variable {P:Program}{ops:Array Oper}{Q:Exit→Act→World→Prop}{N:Nat}{E:Env}{w w0:World}{K K0:KMap}{M:List Nat}{L:List Item}{C:World→Prop}
variable {x y z:Operand}{T T' U:TypeId}{size bytes:Nat}{zero:Value}{agg:Bool}
theorem wc_for' {σ τ:Type}{f:Nat→σ→Option (σ⊕τ)}{n:Nat}{r:σ⊕τ}{s0:σ}{body:Code}{E':Env}(Inv:Nat→σ→Env→World→Prop)(hrun:forFrom f n 0 s0=some r)(h0:Inv 0 s0 E' w)(hs:Sub E' E)
  (hround: ∀i s E w r',i<n→f i s=some r'→(∀x,r'= .inr x→.inr x=r)→Inv i s E w→WC P body (Exit.then (InSt N fun E' w'=>∃s',r'= .inl s'∧Inv (i+1) s' E' w') Q) N E w)
  (hend: ∀s E w,.inl s=r→Inv n s E w→WC P body (Exit.then (fun _ _=>False) Q) N E w):WC P (.loop body) Q N E w:=
 wc_sub hs (wc_for Inv hrun h0 (fun i s E w r' hi hf hx hI=>hround i s E w r' hi hf (fun x e=>(hx x e).symm) hI) fun s E w h hI=>hend s E w h.symm hI)
theorem wc_while' {σ τ:Type}{f:σ→Option (σ⊕τ)}{m:Nat}{r:τ}{s0:σ}{body:Code}{E':Env}(Inv:σ→Env→World→Prop)(hrun:whileM f m s0=some r)(h0:Inv s0 E' w)(hs:Sub E' E)
  (hround: ∀s E w r',f s=some r'→(∀x,r'= .inr x→x=r)→Inv s E w→WC P body (Exit.then (InSt N fun E' w'=>∃s',r'= .inl s'∧Inv s' E' w') Q) N E w):WC P (.loop body) Q N E w:=
 wc_sub hs (wc_while Inv hrun h0 fun s E w r' hf hx hI=>hround s E w r' hf (fun x e=>(hx x e).symm) hI)
theorem AtK.part {b o:Nat}{cs:List Value}(h:AtK K b o cs)(k n:Nat):AtK K b (o+k) ((cs.drop k).take n):=fun j c e=>by
 rw [List.getElem?_take] at e
 split at e
 ·rw [List.getElem?_drop] at e;rw [Nat.add_assoc];exact h _ c e
 ·cases e
theorem rv_min2 {a b:Int}(hx:ev E x=some (.int .i64 a))(hy:ev E y=some (.int .i64 b)):RV P E w (.call {callee:=.builtin .min,args:=#[x,y],argTypes:=#[T,T']}) (.int .i64 (if b<a then b else a)):=
 fun ρ _ _ _ _ _ ha=>by simp [execOp,resolve,invoke,builtin,ha x _ hx,ha y _ hy,Builtin.min_,Builtin.min2]
end
end Go.Fk
