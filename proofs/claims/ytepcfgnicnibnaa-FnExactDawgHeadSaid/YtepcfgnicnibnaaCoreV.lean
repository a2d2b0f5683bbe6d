/-
  Short names for steps that stand one behind the other. Of no program.
-/
import Derived.Test.YtepcfgnicnibnaaCoreG
namespace Go.Fk
open Go
variable {P:Program}{Q:Exit→Act→World→Prop}{N:Nat}{E:Env}{w:World}{ops:Array Oper}{x y:Code}
abbrev oi {α:Type}{a b:α}(h:some a=some b):a=b:=Option.some.inj h
theorem ob {α β:Type}{o:Option α}{f:α→Option β}{b:β}(h:Option.bind o f=some b): ∃a,o=some a∧f a=some b:=Option.bind_eq_some_iff.1 h
theorem elim_l {σ τ β:Type}{f:σ→β}{g:τ→β}{s:σ}{r:β}(h:Sum.elim f g (.inl s)=r):f s=r:=h
theorem nq (h:WC P y Q N E w):WL P ops (Exit.then (y.wp P Q) Q) N [] E w:=wl_nil (qe_seq h)
theorem sr {id:Nat}{l:List Oper}(h:WL P l.toArray (Exit.then (y.wp P Q) Q) N l E w):WC P (.seq (.region id l.toArray false) y) Q N E w:=wc_seq (wc_region h)
theorem nr {id:Nat}{l:List Oper}(h:WL P l.toArray (Exit.then (y.wp P Q) Q) N l E w):WL P ops (Exit.then ((Code.seq (.region id l.toArray false) y).wp P Q) Q) N [] E w:=nq (sr h)
theorem ns (h:WC P x (Exit.then (y.wp P Q) Q) N E w):WL P ops (Exit.then ((Code.seq x y).wp P Q) Q) N [] E w:=nq (wc_seq h)
theorem qs (h:WC P x (Exit.then (y.wp P Q) Q) N E w):QE (Exit.then ((Code.seq x y).wp P Q) Q) .normal N E w:=qe_seq (wc_seq h)
theorem qr {id:Nat}{l:List Oper}(h:WL P l.toArray (Exit.then (y.wp P Q) Q) N l E w):QE (Exit.then ((Code.seq (.region id l.toArray false) y).wp P Q) Q) .normal N E w:=qs (wc_region h)
theorem qg {id:Nat}{l:List Oper}(h:WL P l.toArray Q N l E w):QE (Exit.then ((Code.region id l.toArray false).wp P Q) Q) .normal N E w:=qe_seq (wc_region h)
theorem nb {id:Nat}(h:QE Q .normal N E w):WL P ops (Exit.inBlock id Q) N [] E w:=wl_nil (qe_block h)
theorem nsr {id:Nat}{l:List Oper}{z:Code}(h:WL P l.toArray (Exit.then (y.wp P (Exit.then (z.wp P Q) Q)) (Exit.then (z.wp P Q) Q)) N l E w):WL P ops (Exit.then ((Code.seq (.seq (.region id l.toArray false) y) z).wp P Q) Q) N [] E w:=ns (sr h)
theorem rr {k:Act→World→Prop}(h:QE Q .ret N E w):WC P .ret (Exit.then k Q) N E w:=wc_ret (qe_then_ret h)
theorem vm {d:Tmp}{a:Operand}{ty:TypeId}{pos:String}{af:Array Edge}{rest:List Oper}{v:Value}(hd:Nat.blt d N=true)(hx:ev E a=some v)(h:WL P ops Q N rest ((d,v)::E) w):WL P ops Q N (⟨some d,.move a,ty,pos,af,none⟩::rest) E w:=wl_val wn hd (rv_move hx) h
theorem va {d:Tmp}{a:Operand}{ty:TypeId}{pos:String}{af:Array Edge}{rest:List Oper}{v:Value}(hd:Nat.blt d N=true)(hx:ev E a=some v)(h:WL P ops Q N rest ((d,v)::E) w):WL P ops Q N (⟨some d,.assign a,ty,pos,af,none⟩::rest) E w:=wl_val wn hd (rv_assign hx) h
theorem qm {C:World→Prop}{d:Tmp}{a:Operand}{ty:TypeId}{pos:String}{af:Array Edge}{rest:List Oper}{v:Value}(hd:Nat.blt d N=true)(hx:ev E a=some v)(h:WQ P ops C Q N rest ((d,v)::E)):WQ P ops C Q N (⟨some d,.move a,ty,pos,af,none⟩::rest) E:=wq_val wn hd (fun _ _=>rv_move hx) h
end Go.Fk
