/-
  'FnSnipFoundCardSaid' is proved: whatever byte slices are handed in, 'laws.FnSnipFound' returns true, they read as they did, and so do the listed variables. No conditions but the card's own.
-/
import Derived.Test.YtpdfkjjmcnhakaaGreatDoorRows
import Derived.Test.YtpdfkjjmcnhakaaGreatDoorCoreMZ
import Derived.Test.YtpdfkjjmcnhakaaGreatDoorFacts
import Derived.SevenTiedAt
import Derived.JoinedOf
import Derived.JoinedAt
namespace Go.Proofs.YtpdfkjjmcnhakaaGreatDoor.fnSnipFound
open Go.ChangeShapes Go.WideShapes Go.ChangeAt Go.RowKit Go.WideElems Go.Fk
theorem own:ownKnob Tryz.prog.godebug=none:=by kernel_rfl
theorem b8o:Tryz.prog.cellsOf 5=1:=by kernel_rfl
theorem b7m:laidOutB Tryz.prog=true:=by kernel_rfl
theorem b9W:Tryz.prog.globalNamed "loop.example/fossick/impl.shapes" =some 0:=by kernel_rfl
theorem c0L:(Tryz.prog.globals[0]?).map (·.type)=some 254:=by kernel_rfl
theorem cs3:Tryz.prog.cellsOf 3=1:=by kernel_rfl
theorem cs4:Tryz.prog.cellsOf 4=1:=by kernel_rfl
theorem a8e:Tryz.prog.cellsOf 252=8:=by kernel_rfl
def laid:List (String×DataW Unit):=[("loop.example/fossick/impl.none",Rows.laid_loop_example_fossick_impl_none),("loop.example/fossick/impl.shapes",Rows.laid_loop_example_fossick_impl_shapes)]
theorem b5M (os:Os)(args:Array Value):laidMetH Tryz.prog laid ((World.doorLaid Tryz.prog 4000 os).forCall (fun _ _=>0) ⟨#[],args,[]⟩).memory:=
 laidMetH_of_parts3 (fuel:=8) (laidMet_of_run' 8 (by kernel_rfl) (by kernel_rfl)) (by kernel_rfl) (by kernel_rfl)
def encD (x:a0V):DataW Unit:=.agg [.lit (.bool x.field_),.lit (.int .i64 x.leastWords_),.lit (.int .i64 x.mostWords_),.lit (.int .i64 x.low_),.lit (.int .i64 x.high_),.lit (.bool x.ranged_),.lit (.int .i64 x.leastKids_),.lit (.int .i64 x.mostKids_)]
def ib:DataW Unit→Bool
 | .lit (.bool b)=>b
 | _=>false
def ii:DataW Unit→Int
 | .lit (.int _ n)=>n
 | _=>0
def dec:Lit×DataW Unit→Int×a0V
 | (.int _ n,.agg [v0,v1,v2,v3,v4,v5,v6,v7])=>(n,⟨ib v0,ii v1,ii v2,ii v3,ii v4,ib v5,ii v6,ii v7⟩)
 | _=>(0,⟨false,0,0,0,0,false,0,0⟩)
theorem b5N {W:World}{n:Nat}{v:Value}{a:a0V}{z:DataW Unit×List MemPlace}(h:elemAt (fun _=>()) Tryz.prog W 0 (fun _=>true) false n 252 v=some z)(e:z.1=encD a):v= .agg (J3 a).toArray:=by
 unfold elemAt at h
 split at h
 case isFalse=>cases h
 rename_i hf
 obtain⟨xs,m,_,rfl,hl,hlen,hel⟩:=DataW.trod_struct Tryz.underlying252 h
 rw [a8e] at hl
 have hx: ∃x0 x1 x2 x3 x4 x5 x6 x7,xs=[x0,x1,x2,x3,x4,x5,x6,x7]:=by
  match xs,hlen with
  | [x0,x1,x2,x3,x4,x5,x6,x7],_=>exact⟨x0,x1,x2,x3,x4,x5,x6,x7,rfl⟩
 obtain⟨x0,x1,x2,x3,x4,x5,x6,x7,rfl⟩:=hx
 simp only [encD,List.map_cons,List.map_nil,DataW.agg.injEq,List.cons.injEq] at e
 obtain⟨e0,e1,e2,e3,e4,e5,e6,e7,_⟩:=e
 have hc:v.cells.toList=J3 a:=by
  refine b5B (by rw [hl];rfl) fun i u hu=>?_
  match i with
  | 0=>obtain rfl:=Option.some.inj hu;have h:DataW.trod (fun _=>()) Tryz.prog W 0 (fun _=>true) false m 4 ((v.cells.toList.drop 0).take (Tryz.prog.cellsOf 4))=some x0:=hel 0 _ rfl;rw [cs4] at h;exact a9y Tryz.underlying4 h e0
  | 1=>obtain rfl:=Option.some.inj hu;have h:DataW.trod (fun _=>()) Tryz.prog W 0 (fun _=>true) false m 3 ((v.cells.toList.drop 1).take (Tryz.prog.cellsOf 3))=some x1:=hel 1 _ rfl;rw [cs3] at h;exact a26 Tryz.underlying3 h e1
  | 2=>obtain rfl:=Option.some.inj hu;have h:DataW.trod (fun _=>()) Tryz.prog W 0 (fun _=>true) false m 3 ((v.cells.toList.drop 2).take (Tryz.prog.cellsOf 3))=some x2:=hel 2 _ rfl;rw [cs3] at h;exact a26 Tryz.underlying3 h e2
  | 3=>obtain rfl:=Option.some.inj hu;have h:DataW.trod (fun _=>()) Tryz.prog W 0 (fun _=>true) false m 3 ((v.cells.toList.drop 3).take (Tryz.prog.cellsOf 3))=some x3:=hel 3 _ rfl;rw [cs3] at h;exact a26 Tryz.underlying3 h e3
  | 4=>obtain rfl:=Option.some.inj hu;have h:DataW.trod (fun _=>()) Tryz.prog W 0 (fun _=>true) false m 3 ((v.cells.toList.drop 4).take (Tryz.prog.cellsOf 3))=some x4:=hel 4 _ rfl;rw [cs3] at h;exact a26 Tryz.underlying3 h e4
  | 5=>obtain rfl:=Option.some.inj hu;have h:DataW.trod (fun _=>()) Tryz.prog W 0 (fun _=>true) false m 4 ((v.cells.toList.drop 5).take (Tryz.prog.cellsOf 4))=some x5:=hel 5 _ rfl;rw [cs4] at h;exact a9y Tryz.underlying4 h e5
  | 6=>obtain rfl:=Option.some.inj hu;have h:DataW.trod (fun _=>()) Tryz.prog W 0 (fun _=>true) false m 3 ((v.cells.toList.drop 6).take (Tryz.prog.cellsOf 3))=some x6:=hel 6 _ rfl;rw [cs3] at h;exact a26 Tryz.underlying3 h e6
  | 7=>obtain rfl:=Option.some.inj hu;have h:DataW.trod (fun _=>()) Tryz.prog W 0 (fun _=>true) false m 3 ((v.cells.toList.drop 7).take (Tryz.prog.cellsOf 3))=some x7:=hel 7 _ rfl;rw [cs3] at h;exact a26 Tryz.underlying3 h e7
  | k+8=>simp [J3] at hu
 cases v with
 | agg cs=>
  have:cs.toList=J3 a:=hc
  rw [←this]
 | _=>simp [Value.formed,Tryz.underlying252] at hf
theorem b7q {W:World}(h:laidMetH Tryz.prog laid W): ∃b,a73 J3 0 b P2 W:=by
 rw [MakeChecks.laidMetH_plain _ _ _ (by kernel_rfl)] at h
 obtain⟨ps,⟨g0,t0,cs0,f0,p0,q0,hg0,ht0,hv0,hd0,⟨g1,t1,cs1,f1,p1,q1,hg1,ht1,hv1,hd1,_,_⟩,_⟩,_,_⟩:=h
 obtain rfl:=Option.some.inj (b9W.symm.trans hg1)
 obtain rfl:=Option.some.inj (c0L.symm.trans ht1)
 rcases open_map Tryz.underlying254 hd1 with ⟨_,hx⟩ | ⟨b,es,clock,m,rfl,hcs,hb,_,F,hx⟩
 ·simp [Rows.laid_loop_example_fossick_impl_shapes] at hx
 simp only [Prod.mk.injEq] at hx
 have hx1:=hx.1
 have hlit:(Rows.laid_loop_example_fossick_impl_shapes:DataW Unit)= .map (P2.map fun p=>(Lit.int .i64 p.1,encD p.2)):=rfl
 rw [hlit,DataW.map.injEq] at hx1
 obtain⟨m',h1,h2⟩:=b7M (cells:=J3) (encD:=encD) Tryz.underlying3 F hx1.symm (fun v a z=>b5N) dec (fun p=>rfl)
 refine⟨b,⟨?_,es,clock,m',hb,h1,h2⟩⟩
 obtain rfl:cs1=#[.map (some b)]:=by
  cases cs1
  simp_all
 simp only [World.var?,b9W,a8] at hv1
 split at hv1
 ·rename_i c t fr hh
  obtain rfl:=Option.some.inj hv1
  exact⟨t,fr,hh⟩
 ·cases hv1
end Go.Proofs.YtpdfkjjmcnhakaaGreatDoor.fnSnipFound
