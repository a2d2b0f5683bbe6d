/-
  The arguments of the rows read as plain data. Printed by opens.py.
-/
import Derived.Test.YtepcfgnicnibnaaCoreM
import Derived.Test.YtepcfgnicnibnaaTypes
import Derived.Test.YtepcfgnicnibnaaChecked
import Derived.KernelRfl
set_option linter.unusedVariables false
namespace Go.Proofs.Ytepcfgnicnibnaa
open Go Go.Fk
section
variable {H:Type}{enc:TypeId×Value→H}{W:World}
theorem opens_t109:Opens enc Try.prog W 109 tGHit:=fun fuel cs x h=>by
 obtain⟨xs,n,_,_,hl,hlen,hf⟩:=DataW.trod_struct Try.underlying109 h
 rw [show Try.prog.cellsOf 109=2 from by kernel_rfl] at hl
 obtain⟨y0,y1,rfl⟩: ∃y0 y1,xs=[y0,y1]:=by
  match xs,hlen with
  | [z0,z1],_=>exact⟨z0,z1,rfl⟩
 obtain⟨u0,x0,e0,r0⟩:=(opens_int Try.underlying3) _ _ _ (hf 0 _ rfl)
 have e0:u0.cells.toList=(cs.drop 0).take 1:=e0.trans (congrArg (fun k=>(cs.drop 0).take k) (by kernel_rfl:Try.prog.cellsOf 3=1))
 obtain⟨rfl,hr1⟩:=r0
 obtain⟨u1,x1,e1,r1⟩:=(opens_int Try.underlying3) _ _ _ (hf 1 _ rfl)
 have e1:u1.cells.toList=(cs.drop 1).take 1:=e1.trans (congrArg (fun k=>(cs.drop 1).take k) (by kernel_rfl:Try.prog.cellsOf 3=1))
 obtain⟨rfl,hr2⟩:=r1
 have e0:([.int .i64 x0]:List Value)=(cs.drop 0).take 1:=e0
 have e1:([.int .i64 x1]:List Value)=(cs.drop 1).take 1:=e1
 have hcs:cs=([.int .i64 x0]:List Value)++(([.int .i64 x1]:List Value)++([])):=by
  have g:cs=cs.drop 0:=rfl
  have g2:cs.drop 2=[]:=List.drop_eq_nil_of_le (by omega)
  have g1:cs.drop 1=([.int .i64 x1]:List Value)++([]):=by rw [take_drop_cut cs 1 1,←e1];exact congrArg _ g2
  have g0:cs.drop 0=([.int .i64 x0]:List Value)++(([.int .i64 x1]:List Value)++([])):=by rw [take_drop_cut cs 0 1,←e0];exact congrArg _ g1
  exact g0
 exact⟨.agg #[.int .i64 x0,.int .i64 x1],⟨x0,x1⟩,hcs.symm,⟨rfl,hr1,hr2⟩⟩
theorem opens_t56:Opens enc Try.prog W 56 (tSlice tGHit):=opens_slice (e:=109) Try.underlying56 (by kernel_rfl) (by decide) opens_t109
theorem opens_t22:Opens enc Try.prog W 22 (tSlice (tSlice tGHit)):=opens_slice (e:=56) Try.underlying22 (by kernel_rfl) (by decide) opens_t56
end
end Go.Proofs.Ytepcfgnicnibnaa
