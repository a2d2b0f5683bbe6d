/-
  The arguments of the rows read as plain data. Printed by opens.py.
-/
import Derived.Test.YtpdfkjjmcnhakaaGreatDoorCoreMR
import Derived.Test.YtpdfkjjmcnhakaaGreatDoorTypes
import Derived.Test.YtpdfkjjmcnhakaaGreatDoorChecked
import Derived.KernelRfl
set_option linter.unusedVariables false
namespace Go.Proofs.YtpdfkjjmcnhakaaGreatDoor
open Go Go.Fk
section
variable {H:Type}{enc:TypeId×Value→H}{W:World}
theorem opens_t22:Opens enc Tryz.prog W 22 (tSlice tStr):=opens_slice (e:=9) Tryz.underlying22 (by kernel_rfl) (by decide) (opens_str Tryz.underlying9)
theorem opens_t122:Opens enc Tryz.prog W 122 tGSyn:=fun fuel cs x h=>by
 obtain⟨xs,n,_,_,hl,hlen,hf⟩:=DataW.trod_struct Tryz.underlying122 h
 rw [show Tryz.prog.cellsOf 122=2 from by kernel_rfl] at hl
 obtain⟨y0,y1,rfl⟩: ∃y0 y1,xs=[y0,y1]:=by
  match xs,hlen with
  | [z0,z1],_=>exact⟨z0,z1,rfl⟩
 obtain⟨u0,x0,e0,r0⟩:=opens_t22 _ _ _ (hf 0 _ rfl)
 have e0:u0.cells.toList=(cs.drop 0).take 1:=e0.trans (congrArg (fun k=>(cs.drop 0).take k) (by kernel_rfl:Tryz.prog.cellsOf 22=1))
 obtain⟨a1,n2,c3,rfl,hs4⟩:=r0
 obtain⟨u1,x1,e1,r1⟩:=(opens_str Tryz.underlying9) _ _ _ (hf 1 _ rfl)
 have e1:u1.cells.toList=(cs.drop 1).take 1:=e1.trans (congrArg (fun k=>(cs.drop 1).take k) (by kernel_rfl:Tryz.prog.cellsOf 9=1))
 obtain⟨rfl,hl5⟩:=r1
 have e0:([.slice a1 n2 c3]:List Value)=(cs.drop 0).take 1:=e0
 have e1:([sv x1]:List Value)=(cs.drop 1).take 1:=e1
 have hcs:cs=([.slice a1 n2 c3]:List Value)++(([sv x1]:List Value)++([])):=by
  have g:cs=cs.drop 0:=rfl
  have g2:cs.drop 2=[]:=List.drop_eq_nil_of_le (by omega)
  have g1:cs.drop 1=([sv x1]:List Value)++([]):=by rw [take_drop_cut cs 1 1,←e1];exact congrArg _ g2
  have g0:cs.drop 0=([.slice a1 n2 c3]:List Value)++(([sv x1]:List Value)++([])):=by rw [take_drop_cut cs 0 1,←e0];exact congrArg _ g1
  exact g0
 exact⟨.agg #[.slice a1 n2 c3,sv x1],⟨x0,x1⟩,hcs.symm,⟨a1,n2,c3,rfl,hs4,hl5⟩⟩
theorem opens_t23:Opens enc Tryz.prog W 23 (tSlice tGSyn):=opens_slice (e:=122) Tryz.underlying23 (by kernel_rfl) (by decide) opens_t122
theorem opens_t25:Opens enc Tryz.prog W 25 tGConf:=fun fuel cs x h=>by
 obtain⟨xs,n,_,_,hl,hlen,hf⟩:=DataW.trod_struct Tryz.underlying25 h
 rw [show Tryz.prog.cellsOf 25=2 from by kernel_rfl] at hl
 obtain⟨y0,y1,rfl⟩: ∃y0 y1,xs=[y0,y1]:=by
  match xs,hlen with
  | [z0,z1],_=>exact⟨z0,z1,rfl⟩
 obtain⟨u0,x0,e0,r0⟩:=opens_t22 _ _ _ (hf 0 _ rfl)
 have e0:u0.cells.toList=(cs.drop 0).take 1:=e0.trans (congrArg (fun k=>(cs.drop 0).take k) (by kernel_rfl:Tryz.prog.cellsOf 22=1))
 obtain⟨a1,n2,c3,rfl,hs4⟩:=r0
 obtain⟨u1,x1,e1,r1⟩:=opens_t23 _ _ _ (hf 1 _ rfl)
 have e1:u1.cells.toList=(cs.drop 1).take 1:=e1.trans (congrArg (fun k=>(cs.drop 1).take k) (by kernel_rfl:Tryz.prog.cellsOf 23=1))
 obtain⟨a5,n6,c7,rfl,hs8⟩:=r1
 have e0:([.slice a1 n2 c3]:List Value)=(cs.drop 0).take 1:=e0
 have e1:([.slice a5 n6 c7]:List Value)=(cs.drop 1).take 1:=e1
 have hcs:cs=([.slice a1 n2 c3]:List Value)++(([.slice a5 n6 c7]:List Value)++([])):=by
  have g:cs=cs.drop 0:=rfl
  have g2:cs.drop 2=[]:=List.drop_eq_nil_of_le (by omega)
  have g1:cs.drop 1=([.slice a5 n6 c7]:List Value)++([]):=by rw [take_drop_cut cs 1 1,←e1];exact congrArg _ g2
  have g0:cs.drop 0=([.slice a1 n2 c3]:List Value)++(([.slice a5 n6 c7]:List Value)++([])):=by rw [take_drop_cut cs 0 1,←e0];exact congrArg _ g1
  exact g0
 exact⟨.agg #[.slice a1 n2 c3,.slice a5 n6 c7],⟨x0,x1⟩,hcs.symm,⟨a1,n2,c3,a5,n6,c7,rfl,hs4,hs8⟩⟩
theorem opens_t268:Opens enc Tryz.prog W 268 tGField:=fun fuel cs x h=>by
 obtain⟨xs,n,_,_,hl,hlen,hf⟩:=DataW.trod_struct Tryz.underlying268 h
 rw [show Tryz.prog.cellsOf 268=2 from by kernel_rfl] at hl
 obtain⟨y0,y1,rfl⟩: ∃y0 y1,xs=[y0,y1]:=by
  match xs,hlen with
  | [z0,z1],_=>exact⟨z0,z1,rfl⟩
 obtain⟨u0,x0,e0,r0⟩:=(opens_str Tryz.underlying9) _ _ _ (hf 0 _ rfl)
 have e0:u0.cells.toList=(cs.drop 0).take 1:=e0.trans (congrArg (fun k=>(cs.drop 0).take k) (by kernel_rfl:Tryz.prog.cellsOf 9=1))
 obtain⟨rfl,hl1⟩:=r0
 obtain⟨u1,x1,e1,r1⟩:=(opens_str Tryz.underlying9) _ _ _ (hf 1 _ rfl)
 have e1:u1.cells.toList=(cs.drop 1).take 1:=e1.trans (congrArg (fun k=>(cs.drop 1).take k) (by kernel_rfl:Tryz.prog.cellsOf 9=1))
 obtain⟨rfl,hl2⟩:=r1
 have e0:([sv x0]:List Value)=(cs.drop 0).take 1:=e0
 have e1:([sv x1]:List Value)=(cs.drop 1).take 1:=e1
 have hcs:cs=([sv x0]:List Value)++(([sv x1]:List Value)++([])):=by
  have g:cs=cs.drop 0:=rfl
  have g2:cs.drop 2=[]:=List.drop_eq_nil_of_le (by omega)
  have g1:cs.drop 1=([sv x1]:List Value)++([]):=by rw [take_drop_cut cs 1 1,←e1];exact congrArg _ g2
  have g0:cs.drop 0=([sv x0]:List Value)++(([sv x1]:List Value)++([])):=by rw [take_drop_cut cs 0 1,←e0];exact congrArg _ g1
  exact g0
 exact⟨.agg #[sv x0,sv x1],⟨x0,x1⟩,hcs.symm,⟨rfl,hl1,hl2⟩⟩
theorem opens_t177:Opens enc Tryz.prog W 177 (tSlice tGField):=opens_slice (e:=268) Tryz.underlying177 (by kernel_rfl) (by decide) opens_t268
theorem opens_t270:Opens enc Tryz.prog W 270 tGAttr:=fun fuel cs x h=>by
 obtain⟨xs,n,_,_,hl,hlen,hf⟩:=DataW.trod_struct Tryz.underlying270 h
 rw [show Tryz.prog.cellsOf 270=2 from by kernel_rfl] at hl
 obtain⟨y0,y1,rfl⟩: ∃y0 y1,xs=[y0,y1]:=by
  match xs,hlen with
  | [z0,z1],_=>exact⟨z0,z1,rfl⟩
 obtain⟨u0,x0,e0,r0⟩:=(opens_str Tryz.underlying9) _ _ _ (hf 0 _ rfl)
 have e0:u0.cells.toList=(cs.drop 0).take 1:=e0.trans (congrArg (fun k=>(cs.drop 0).take k) (by kernel_rfl:Tryz.prog.cellsOf 9=1))
 obtain⟨rfl,hl1⟩:=r0
 obtain⟨u1,x1,e1,r1⟩:=(opens_int Tryz.underlying3) _ _ _ (hf 1 _ rfl)
 have e1:u1.cells.toList=(cs.drop 1).take 1:=e1.trans (congrArg (fun k=>(cs.drop 1).take k) (by kernel_rfl:Tryz.prog.cellsOf 3=1))
 obtain⟨rfl,hr2⟩:=r1
 have e0:([sv x0]:List Value)=(cs.drop 0).take 1:=e0
 have e1:([.int .i64 x1]:List Value)=(cs.drop 1).take 1:=e1
 have hcs:cs=([sv x0]:List Value)++(([.int .i64 x1]:List Value)++([])):=by
  have g:cs=cs.drop 0:=rfl
  have g2:cs.drop 2=[]:=List.drop_eq_nil_of_le (by omega)
  have g1:cs.drop 1=([.int .i64 x1]:List Value)++([]):=by rw [take_drop_cut cs 1 1,←e1];exact congrArg _ g2
  have g0:cs.drop 0=([sv x0]:List Value)++(([.int .i64 x1]:List Value)++([])):=by rw [take_drop_cut cs 0 1,←e0];exact congrArg _ g1
  exact g0
 exact⟨.agg #[sv x0,.int .i64 x1],⟨x0,x1⟩,hcs.symm,⟨rfl,hl1,hr2⟩⟩
theorem opens_t178:Opens enc Tryz.prog W 178 (tSlice tGAttr):=opens_slice (e:=270) Tryz.underlying178 (by kernel_rfl) (by decide) opens_t270
theorem opens_t180:Opens enc Tryz.prog W 180 tGDoc:=fun fuel cs x h=>by
 obtain⟨xs,n,_,_,hl,hlen,hf⟩:=DataW.trod_struct Tryz.underlying180 h
 rw [show Tryz.prog.cellsOf 180=3 from by kernel_rfl] at hl
 obtain⟨y0,y1,y2,rfl⟩: ∃y0 y1 y2,xs=[y0,y1,y2]:=by
  match xs,hlen with
  | [z0,z1,z2],_=>exact⟨z0,z1,z2,rfl⟩
 obtain⟨u0,x0,e0,r0⟩:=(opens_int Tryz.underlying3) _ _ _ (hf 0 _ rfl)
 have e0:u0.cells.toList=(cs.drop 0).take 1:=e0.trans (congrArg (fun k=>(cs.drop 0).take k) (by kernel_rfl:Tryz.prog.cellsOf 3=1))
 obtain⟨rfl,hr1⟩:=r0
 obtain⟨u1,x1,e1,r1⟩:=opens_t177 _ _ _ (hf 1 _ rfl)
 have e1:u1.cells.toList=(cs.drop 1).take 1:=e1.trans (congrArg (fun k=>(cs.drop 1).take k) (by kernel_rfl:Tryz.prog.cellsOf 177=1))
 obtain⟨a2,n3,c4,rfl,hs5⟩:=r1
 obtain⟨u2,x2,e2,r2⟩:=opens_t178 _ _ _ (hf 2 _ rfl)
 have e2:u2.cells.toList=(cs.drop 2).take 1:=e2.trans (congrArg (fun k=>(cs.drop 2).take k) (by kernel_rfl:Tryz.prog.cellsOf 178=1))
 obtain⟨a6,n7,c8,rfl,hs9⟩:=r2
 have e0:([.int .i64 x0]:List Value)=(cs.drop 0).take 1:=e0
 have e1:([.slice a2 n3 c4]:List Value)=(cs.drop 1).take 1:=e1
 have e2:([.slice a6 n7 c8]:List Value)=(cs.drop 2).take 1:=e2
 have hcs:cs=([.int .i64 x0]:List Value)++(([.slice a2 n3 c4]:List Value)++(([.slice a6 n7 c8]:List Value)++([]))):=by
  have g:cs=cs.drop 0:=rfl
  have g3:cs.drop 3=[]:=List.drop_eq_nil_of_le (by omega)
  have g2:cs.drop 2=([.slice a6 n7 c8]:List Value)++([]):=by rw [take_drop_cut cs 2 1,←e2];exact congrArg _ g3
  have g1:cs.drop 1=([.slice a2 n3 c4]:List Value)++(([.slice a6 n7 c8]:List Value)++([])):=by rw [take_drop_cut cs 1 1,←e1];exact congrArg _ g2
  have g0:cs.drop 0=([.int .i64 x0]:List Value)++(([.slice a2 n3 c4]:List Value)++(([.slice a6 n7 c8]:List Value)++([]))):=by rw [take_drop_cut cs 0 1,←e0];exact congrArg _ g1
  exact g0
 exact⟨.agg #[.int .i64 x0,.slice a2 n3 c4,.slice a6 n7 c8],⟨x0,x1,x2⟩,hcs.symm,⟨a2,n3,c4,a6,n7,c8,rfl,hr1,hs5,hs9⟩⟩
theorem opens_t26:Opens enc Tryz.prog W 26 (tSlice tGDoc):=opens_slice (e:=180) Tryz.underlying26 (by kernel_rfl) (by decide) opens_t180
theorem opens_t30:Opens enc Tryz.prog W 30 (tSlice tInt):=opens_slice (e:=3) Tryz.underlying30 (by kernel_rfl) (by decide) (opens_int Tryz.underlying3)
theorem opens_t272:Opens enc Tryz.prog W 272 tGPost:=fun fuel cs x h=>by
 obtain⟨xs,n,_,_,hl,hlen,hf⟩:=DataW.trod_struct Tryz.underlying272 h
 rw [show Tryz.prog.cellsOf 272=2 from by kernel_rfl] at hl
 obtain⟨y0,y1,rfl⟩: ∃y0 y1,xs=[y0,y1]:=by
  match xs,hlen with
  | [z0,z1],_=>exact⟨z0,z1,rfl⟩
 obtain⟨u0,x0,e0,r0⟩:=(opens_int Tryz.underlying3) _ _ _ (hf 0 _ rfl)
 have e0:u0.cells.toList=(cs.drop 0).take 1:=e0.trans (congrArg (fun k=>(cs.drop 0).take k) (by kernel_rfl:Tryz.prog.cellsOf 3=1))
 obtain⟨rfl,hr1⟩:=r0
 obtain⟨u1,x1,e1,r1⟩:=opens_t30 _ _ _ (hf 1 _ rfl)
 have e1:u1.cells.toList=(cs.drop 1).take 1:=e1.trans (congrArg (fun k=>(cs.drop 1).take k) (by kernel_rfl:Tryz.prog.cellsOf 30=1))
 obtain⟨a2,n3,c4,rfl,hs5⟩:=r1
 have e0:([.int .i64 x0]:List Value)=(cs.drop 0).take 1:=e0
 have e1:([.slice a2 n3 c4]:List Value)=(cs.drop 1).take 1:=e1
 have hcs:cs=([.int .i64 x0]:List Value)++(([.slice a2 n3 c4]:List Value)++([])):=by
  have g:cs=cs.drop 0:=rfl
  have g2:cs.drop 2=[]:=List.drop_eq_nil_of_le (by omega)
  have g1:cs.drop 1=([.slice a2 n3 c4]:List Value)++([]):=by rw [take_drop_cut cs 1 1,←e1];exact congrArg _ g2
  have g0:cs.drop 0=([.int .i64 x0]:List Value)++(([.slice a2 n3 c4]:List Value)++([])):=by rw [take_drop_cut cs 0 1,←e0];exact congrArg _ g1
  exact g0
 exact⟨.agg #[.int .i64 x0,.slice a2 n3 c4],⟨x0,x1⟩,hcs.symm,⟨a2,n3,c4,rfl,hr1,hs5⟩⟩
theorem opens_t182:Opens enc Tryz.prog W 182 (tSlice tGPost):=opens_slice (e:=272) Tryz.underlying182 (by kernel_rfl) (by decide) opens_t272
theorem opens_t184:Opens enc Tryz.prog W 184 tGEntry:=fun fuel cs x h=>by
 obtain⟨xs,n,_,_,hl,hlen,hf⟩:=DataW.trod_struct Tryz.underlying184 h
 rw [show Tryz.prog.cellsOf 184=3 from by kernel_rfl] at hl
 obtain⟨y0,y1,y2,rfl⟩: ∃y0 y1 y2,xs=[y0,y1,y2]:=by
  match xs,hlen with
  | [z0,z1,z2],_=>exact⟨z0,z1,z2,rfl⟩
 obtain⟨u0,x0,e0,r0⟩:=(opens_str Tryz.underlying9) _ _ _ (hf 0 _ rfl)
 have e0:u0.cells.toList=(cs.drop 0).take 1:=e0.trans (congrArg (fun k=>(cs.drop 0).take k) (by kernel_rfl:Tryz.prog.cellsOf 9=1))
 obtain⟨rfl,hl1⟩:=r0
 obtain⟨u1,x1,e1,r1⟩:=(opens_str Tryz.underlying9) _ _ _ (hf 1 _ rfl)
 have e1:u1.cells.toList=(cs.drop 1).take 1:=e1.trans (congrArg (fun k=>(cs.drop 1).take k) (by kernel_rfl:Tryz.prog.cellsOf 9=1))
 obtain⟨rfl,hl2⟩:=r1
 obtain⟨u2,x2,e2,r2⟩:=opens_t182 _ _ _ (hf 2 _ rfl)
 have e2:u2.cells.toList=(cs.drop 2).take 1:=e2.trans (congrArg (fun k=>(cs.drop 2).take k) (by kernel_rfl:Tryz.prog.cellsOf 182=1))
 obtain⟨a3,n4,c5,rfl,hs6⟩:=r2
 have e0:([sv x0]:List Value)=(cs.drop 0).take 1:=e0
 have e1:([sv x1]:List Value)=(cs.drop 1).take 1:=e1
 have e2:([.slice a3 n4 c5]:List Value)=(cs.drop 2).take 1:=e2
 have hcs:cs=([sv x0]:List Value)++(([sv x1]:List Value)++(([.slice a3 n4 c5]:List Value)++([]))):=by
  have g:cs=cs.drop 0:=rfl
  have g3:cs.drop 3=[]:=List.drop_eq_nil_of_le (by omega)
  have g2:cs.drop 2=([.slice a3 n4 c5]:List Value)++([]):=by rw [take_drop_cut cs 2 1,←e2];exact congrArg _ g3
  have g1:cs.drop 1=([sv x1]:List Value)++(([.slice a3 n4 c5]:List Value)++([])):=by rw [take_drop_cut cs 1 1,←e1];exact congrArg _ g2
  have g0:cs.drop 0=([sv x0]:List Value)++(([sv x1]:List Value)++(([.slice a3 n4 c5]:List Value)++([]))):=by rw [take_drop_cut cs 0 1,←e0];exact congrArg _ g1
  exact g0
 exact⟨.agg #[sv x0,sv x1,.slice a3 n4 c5],⟨x0,x1,x2⟩,hcs.symm,⟨a3,n4,c5,rfl,hl1,hl2,hs6⟩⟩
theorem opens_t27:Opens enc Tryz.prog W 27 (tSlice tGEntry):=opens_slice (e:=184) Tryz.underlying27 (by kernel_rfl) (by decide) opens_t184
theorem opens_t29:Opens enc Tryz.prog W 29 tGSeg:=fun fuel cs x h=>by
 obtain⟨xs,n,_,_,hl,hlen,hf⟩:=DataW.trod_struct Tryz.underlying29 h
 rw [show Tryz.prog.cellsOf 29=2 from by kernel_rfl] at hl
 obtain⟨y0,y1,rfl⟩: ∃y0 y1,xs=[y0,y1]:=by
  match xs,hlen with
  | [z0,z1],_=>exact⟨z0,z1,rfl⟩
 obtain⟨u0,x0,e0,r0⟩:=opens_t26 _ _ _ (hf 0 _ rfl)
 have e0:u0.cells.toList=(cs.drop 0).take 1:=e0.trans (congrArg (fun k=>(cs.drop 0).take k) (by kernel_rfl:Tryz.prog.cellsOf 26=1))
 obtain⟨a1,n2,c3,rfl,hs4⟩:=r0
 obtain⟨u1,x1,e1,r1⟩:=opens_t27 _ _ _ (hf 1 _ rfl)
 have e1:u1.cells.toList=(cs.drop 1).take 1:=e1.trans (congrArg (fun k=>(cs.drop 1).take k) (by kernel_rfl:Tryz.prog.cellsOf 27=1))
 obtain⟨a5,n6,c7,rfl,hs8⟩:=r1
 have e0:([.slice a1 n2 c3]:List Value)=(cs.drop 0).take 1:=e0
 have e1:([.slice a5 n6 c7]:List Value)=(cs.drop 1).take 1:=e1
 have hcs:cs=([.slice a1 n2 c3]:List Value)++(([.slice a5 n6 c7]:List Value)++([])):=by
  have g:cs=cs.drop 0:=rfl
  have g2:cs.drop 2=[]:=List.drop_eq_nil_of_le (by omega)
  have g1:cs.drop 1=([.slice a5 n6 c7]:List Value)++([]):=by rw [take_drop_cut cs 1 1,←e1];exact congrArg _ g2
  have g0:cs.drop 0=([.slice a1 n2 c3]:List Value)++(([.slice a5 n6 c7]:List Value)++([])):=by rw [take_drop_cut cs 0 1,←e0];exact congrArg _ g1
  exact g0
 exact⟨.agg #[.slice a1 n2 c3,.slice a5 n6 c7],⟨x0,x1⟩,hcs.symm,⟨a1,n2,c3,a5,n6,c7,rfl,hs4,hs8⟩⟩
theorem opens_t32:Opens enc Tryz.prog W 32 tGLive:=fun fuel cs x h=>by
 obtain⟨xs,n,_,_,hl,hlen,hf⟩:=DataW.trod_struct Tryz.underlying32 h
 rw [show Tryz.prog.cellsOf 32=3 from by kernel_rfl] at hl
 obtain⟨y0,y1,rfl⟩: ∃y0 y1,xs=[y0,y1]:=by
  match xs,hlen with
  | [z0,z1],_=>exact⟨z0,z1,rfl⟩
 obtain⟨u0,x0,e0,r0⟩:=opens_t29 _ _ _ (hf 0 _ rfl)
 have e0:u0.cells.toList=(cs.drop 0).take 2:=e0.trans (congrArg (fun k=>(cs.drop 0).take k) (by kernel_rfl:Tryz.prog.cellsOf 29=2))
 obtain⟨a1,n2,c3,a5,n6,c7,rfl,hs4,hs8⟩:=r0
 obtain⟨u1,x1,e1,r1⟩:=opens_t30 _ _ _ (hf 1 _ rfl)
 have e1:u1.cells.toList=(cs.drop 2).take 1:=e1.trans (congrArg (fun k=>(cs.drop 2).take k) (by kernel_rfl:Tryz.prog.cellsOf 30=1))
 obtain⟨a9,n10,c11,rfl,hs12⟩:=r1
 have e0:([.slice a1 n2 c3,.slice a5 n6 c7]:List Value)=(cs.drop 0).take 2:=e0
 have e1:([.slice a9 n10 c11]:List Value)=(cs.drop 2).take 1:=e1
 have hcs:cs=([.slice a1 n2 c3,.slice a5 n6 c7]:List Value)++(([.slice a9 n10 c11]:List Value)++([])):=by
  have g:cs=cs.drop 0:=rfl
  have g2:cs.drop 3=[]:=List.drop_eq_nil_of_le (by omega)
  have g1:cs.drop 2=([.slice a9 n10 c11]:List Value)++([]):=by rw [take_drop_cut cs 2 1,←e1];exact congrArg _ g2
  have g0:cs.drop 0=([.slice a1 n2 c3,.slice a5 n6 c7]:List Value)++(([.slice a9 n10 c11]:List Value)++([])):=by rw [take_drop_cut cs 0 2,←e0];exact congrArg _ g1
  exact g0
 exact⟨.agg #[.slice a1 n2 c3,.slice a5 n6 c7,.slice a9 n10 c11],⟨x0,x1⟩,hcs.symm,⟨a1,n2,c3,a5,n6,c7,a9,n10,c11,rfl,hs4,hs8,hs12⟩⟩
end
end Go.Proofs.YtpdfkjjmcnhakaaGreatDoor
