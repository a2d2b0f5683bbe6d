/-
  The arguments of the rows read as plain data. Printed by opens.py.
-/
import Derived.Test.YtepcfgnicnibnaaCoreM
import Derived.Test.YtepcfgnicnibnaaTypes
import Derived.Test.YtepcfgnicnibnaaChecked
import Derived.KernelRfl
set_option linter.unusedVariables false
namespace Go.Proofs.Ytepcfgnicnibnaa
open Go Go.Fk
section
variable {H:Type}{enc:TypeId×Value→H}{W:World}
theorem opens_t146:Opens enc Try.prog W 146 tGArc:=fun fuel cs x h=>by
 obtain⟨xs,n,_,_,hl,hlen,hf⟩:=DataW.trod_struct Try.underlying146 h
 rw [show Try.prog.cellsOf 146=2 from by kernel_rfl] at hl
 obtain⟨y0,y1,rfl⟩: ∃y0 y1,xs=[y0,y1]:=by
  match xs,hlen with
  | [z0,z1],_=>exact⟨z0,z1,rfl⟩
 obtain⟨u0,x0,e0,r0⟩:=(opens_u8 Try.underlying5) _ _ _ (hf 0 _ rfl)
 have e0:u0.cells.toList=(cs.drop 0).take 1:=e0.trans (congrArg (fun k=>(cs.drop 0).take k) (by kernel_rfl:Try.prog.cellsOf 5=1))
 obtain rfl:=r0
 obtain⟨u1,x1,e1,r1⟩:=(opens_int Try.underlying3) _ _ _ (hf 1 _ rfl)
 have e1:u1.cells.toList=(cs.drop 1).take 1:=e1.trans (congrArg (fun k=>(cs.drop 1).take k) (by kernel_rfl:Try.prog.cellsOf 3=1))
 obtain⟨rfl,hr1⟩:=r1
 have e0:([iv8 x0]:List Value)=(cs.drop 0).take 1:=e0
 have e1:([.int .i64 x1]:List Value)=(cs.drop 1).take 1:=e1
 have hcs:cs=([iv8 x0]:List Value)++(([.int .i64 x1]:List Value)++([])):=by
  have g:cs=cs.drop 0:=rfl
  have g2:cs.drop 2=[]:=List.drop_eq_nil_of_le (by omega)
  have g1:cs.drop 1=([.int .i64 x1]:List Value)++([]):=by rw [take_drop_cut cs 1 1,←e1];exact congrArg _ g2
  have g0:cs.drop 0=([iv8 x0]:List Value)++(([.int .i64 x1]:List Value)++([])):=by rw [take_drop_cut cs 0 1,←e0];exact congrArg _ g1
  exact g0
 exact⟨.agg #[iv8 x0,.int .i64 x1],⟨x0,x1⟩,hcs.symm,⟨rfl,hr1⟩⟩
theorem opens_t69:Opens enc Try.prog W 69 (tSlice tGArc):=opens_slice (e:=146) Try.underlying69 (by kernel_rfl) (by decide) opens_t146
theorem opens_t71:Opens enc Try.prog W 71 tGState:=fun fuel cs x h=>by
 obtain⟨xs,n,_,_,hl,hlen,hf⟩:=DataW.trod_struct Try.underlying71 h
 rw [show Try.prog.cellsOf 71=3 from by kernel_rfl] at hl
 obtain⟨y0,y1,y2,rfl⟩: ∃y0 y1 y2,xs=[y0,y1,y2]:=by
  match xs,hlen with
  | [z0,z1,z2],_=>exact⟨z0,z1,z2,rfl⟩
 obtain⟨u0,x0,e0,r0⟩:=(opens_bool Try.underlying4) _ _ _ (hf 0 _ rfl)
 have e0:u0.cells.toList=(cs.drop 0).take 1:=e0.trans (congrArg (fun k=>(cs.drop 0).take k) (by kernel_rfl:Try.prog.cellsOf 4=1))
 obtain rfl:=r0
 obtain⟨u1,x1,e1,r1⟩:=(opens_int Try.underlying3) _ _ _ (hf 1 _ rfl)
 have e1:u1.cells.toList=(cs.drop 1).take 1:=e1.trans (congrArg (fun k=>(cs.drop 1).take k) (by kernel_rfl:Try.prog.cellsOf 3=1))
 obtain⟨rfl,hr1⟩:=r1
 obtain⟨u2,x2,e2,r2⟩:=opens_t69 _ _ _ (hf 2 _ rfl)
 have e2:u2.cells.toList=(cs.drop 2).take 1:=e2.trans (congrArg (fun k=>(cs.drop 2).take k) (by kernel_rfl:Try.prog.cellsOf 69=1))
 obtain⟨a2,n3,c4,rfl,hs5⟩:=r2
 have e0:([.bool x0]:List Value)=(cs.drop 0).take 1:=e0
 have e1:([.int .i64 x1]:List Value)=(cs.drop 1).take 1:=e1
 have e2:([.slice a2 n3 c4]:List Value)=(cs.drop 2).take 1:=e2
 have hcs:cs=([.bool x0]:List Value)++(([.int .i64 x1]:List Value)++(([.slice a2 n3 c4]:List Value)++([]))):=by
  have g:cs=cs.drop 0:=rfl
  have g3:cs.drop 3=[]:=List.drop_eq_nil_of_le (by omega)
  have g2:cs.drop 2=([.slice a2 n3 c4]:List Value)++([]):=by rw [take_drop_cut cs 2 1,←e2];exact congrArg _ g3
  have g1:cs.drop 1=([.int .i64 x1]:List Value)++(([.slice a2 n3 c4]:List Value)++([])):=by rw [take_drop_cut cs 1 1,←e1];exact congrArg _ g2
  have g0:cs.drop 0=([.bool x0]:List Value)++(([.int .i64 x1]:List Value)++(([.slice a2 n3 c4]:List Value)++([]))):=by rw [take_drop_cut cs 0 1,←e0];exact congrArg _ g1
  exact g0
 exact⟨.agg #[.bool x0,.int .i64 x1,.slice a2 n3 c4],⟨x0,x1,x2⟩,hcs.symm,⟨a2,n3,c4,rfl,hr1,hs5⟩⟩
theorem opens_t33:Opens enc Try.prog W 33 (tSlice tGState):=opens_slice (e:=71) Try.underlying33 (by kernel_rfl) (by decide) opens_t71
end
end Go.Proofs.Ytepcfgnicnibnaa
