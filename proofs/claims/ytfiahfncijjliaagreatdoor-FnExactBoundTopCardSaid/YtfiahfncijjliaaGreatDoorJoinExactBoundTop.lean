/-
  'FnExactBoundTopCardSaid' is proved: whatever arguments are handed in, 'laws.FnExactBoundTop' returns true, they read as they did, and so does the listed variable. No conditions but the card's own.
-/
import Derived.Test.YtfiahfncijjliaaGreatDoorRows
import Derived.Test.YtfiahfncijjliaaGreatDoorCards
import Derived.Test.YtfiahfncijjliaaGreatDoorTie
import Derived.Test.YtfiahfncijjliaaGreatDoorCoreMR
import Derived.Test.YtfiahfncijjliaaGreatDoorOpens
import Derived.Test.YtfiahfncijjliaaGreatDoorLawExactBtop
import Derived.Test.YtfiahfncijjliaaGreatDoorWalkA10
import Derived.ChangeVars
import Derived.LaidMore
import Derived.LaidHandle
import Derived.LaidLaws
import Derived.Stop.Joined
import Derived.SevenTiedAt
import Derived.JoinedOf
import Derived.JoinedAt
namespace Go.Proofs.YtfiahfncijjliaaGreatDoor.fnExactBoundTop
open Go.ChangeShapes Go.WideShapes Go.ChangeAt Go.RowKit Go.Fk
theorem own:ownKnob Tryz.prog.godebug=none:=by kernel_rfl
theorem laidB:laidOutB Tryz.prog=true:=by kernel_rfl
theorem gNone:Tryz.prog.globalNamed "loop.example/fossick/impl.none" =some 0:=by kernel_rfl
theorem tNone:(Tryz.prog.globals[0]?).map (·.type)=some 142:=by kernel_rfl
def laid:List (String×DataW Unit):=[("loop.example/fossick/impl.none",Rows.laid_loop_example_fossick_impl_none)]
theorem door_met (os:Os)(args:Array Value):laidMetH Tryz.prog laid ((World.doorLaid Tryz.prog 4000 os).forCall (fun _ _=>0) ⟨#[],args,[]⟩).memory:=
 laidMetH_of_parts3 (fuel:=8) (laidMet_of_run' 8 (by kernel_rfl) (by kernel_rfl)) (by kernel_rfl) (by kernel_rfl)
theorem var_stands {H:Type}{enc:TypeId×Value→H}{W W':World}{gs:List (DataW H)}{q:List MemPlace}(hV:DataW.TrodVars enc Tryz.prog W (fun _=>true) ["loop.example/fossick/impl.none"] gs q)(hg:W'.heap[0]? =W.heap[0]?):
  ∃g,gs=[g]∧∀sp:Nat→Bool,DataW.TrodVars enc Tryz.prog W' sp ["loop.example/fossick/impl.none"] [g] q:=by
 obtain⟨g,t,cs,fuel,d,p,rfl,h1,h2,h3,h4,rfl⟩:=trodVars_one hV
 obtain rfl:=Option.some.inj (gNone.symm.trans h1)
 obtain rfl:=Option.some.inj (tNone.symm.trans h2)
 obtain⟨y0,y1,m,hx,hl,k0,k1⟩:=trod_struct2 Tryz.underlying142 h4
 obtain⟨a,e0,rfl,w0⟩:=DataW.trod_int Tryz.underlying3 k0
 obtain⟨b,e1,rfl,w1⟩:=DataW.trod_int Tryz.underlying3 k1
 simp only [Prod.mk.injEq] at hx
 obtain⟨rfl,rfl⟩:=hx
 refine⟨_,rfl,fun sp=>trodVars_mk1 gNone tNone (cs:=cs) (fuel:=2) ?_ ?_⟩
 ·rw [←h3]
  simp only [World.var?,gNone,Option.bind_some,hg]
 ·exact trod_struct2_mk (n:=1) (y0:=(.lit (.int .i64 a),[])) (y1:=(.lit (.int .i64 b),[])) Tryz.underlying142 hl (by rw [e0];exact trod_int_mk 0 Tryz.underlying3 w0) (by rw [e1];exact trod_int_mk 0 Tryz.underlying3 w1)
set_option maxRecDepth 100000 in
theorem lifted (os:Os)(started:os.Started)(H:Type)(enc:TypeId×Value→H):
  ReturnsInHanded {} Tryz.checked os 4 .any (fun w args=>(Rows.fnExactBoundTopSpec.pre enc Tryz.prog Tryz.f4 [] false w args∧laidMetH Tryz.prog laid w)∧sizedMet enc Tryz.prog Tryz.f4 (OpenSpec.ofChange Rows.fnExactBoundTopSpec) false w args)
   (Rows.fnExactBoundTopSpec.post enc Tryz.prog Tryz.f4 false true false false):=by
 refine returnsInHanded_of_change_and (C:=Tryz.checked) (X:=fun w _=>laidMetH Tryz.prog laid w) (fun _ _ _ hh h=>h.of_heap hh) own started (by kernel_rfl) Tryz.func4
  (ChangeSpec.witness_shaped (enc:=enc) (C:=Tryz.checked) (os:=os) (X:=fun w _=>laidMetH Tryz.prog laid w) false (World.doorLaid Tryz.prog 4000 os) #[.agg #[.slice none 0 0,.slice none 0 0],.agg #[.slice none 0 0,.slice none 0 0],.string ⟨#[]⟩,.slice none 0 0,.int .i64 0] 8 rfl (World.shaped_of_RefB (by kernel_rfl) (by kernel_rfl)) (by kernel_rfl) (by kernel_rfl) (by kernel_rfl) (door_met os _)) ?_
 intro W base args ds gs before hval0 hW _ _ _ _
 have hval: ∀(j:Nat) t v,Tryz.f4.params[j]? =some t→args[j]? =some v→Value.okWide Tryz.prog W .any base t v:=hval0
 have hW':=hW
 obtain⟨p,q,hA0,hV0,rfl,_,_⟩:=hW
 have hA:DataW.TrodAll enc Tryz.prog W 0 (fun _=>true) true Tryz.f4.params.toList args.toList ds p:=hA0
 have hV:DataW.TrodVars enc Tryz.prog W (fun _=>true) ["loop.example/fossick/impl.none"] gs q:=hV0
 rw [Tryz.params4] at hA hval
 obtain⟨v0,vs0,d0,ds0,p0,q0,hargs,rfl,rfl,h0,r0⟩:=trodAll_cons hA
 obtain⟨v1,vs1,d1,ds1,p1,q1,rfl,rfl,rfl,h1,r1⟩:=trodAll_cons r0
 obtain⟨v2,vs2,d2,ds2,p2,q2,rfl,rfl,rfl,h2,r2⟩:=trodAll_cons r1
 obtain⟨v3,vs3,d3,ds3,p3,q3,rfl,rfl,rfl,h3,r3⟩:=trodAll_cons r2
 obtain⟨v4,vs4,d4,ds4,p4,q4,rfl,rfl,rfl,h4,r4⟩:=trodAll_cons r3
 obtain⟨rfl,rfl,rfl⟩:=trodAll_nil r4
 obtain rfl:args=#[v0,v1,v2,v3,v4]:=by cases args;simp_all
 obtain⟨cs0,rfl,hsz0⟩:=okWide_struct Tryz.underlying25 (hval 0 25 v0 rfl rfl)
 obtain⟨x0,a0_0,n0_0,c0_0,a0_1,n0_1,c0_1,hv0,hs0_0,hs0_1⟩:=open_arg (opens_t25 (W:=W) (enc:=enc)) (fun u h1 h2=>by
  obtain⟨x,a0_0,n0_0,c0_0,a0_1,n0_1,c0_1,rfl,_⟩:=h2
  have h3:[Value.slice a0_0 n0_0 c0_0,Value.slice a0_1 n0_1 c0_1]=cs0.toList:=by simpa [Value.cells] using h1
  exact congrArg Value.agg (by rw [←Array.toArray_toList (xs:=cs0),←h3])) h0
 injection hv0 with hv0
 subst hv0
 obtain⟨cs1,rfl,hsz1⟩:=okWide_struct Tryz.underlying29 (hval 1 29 v1 rfl rfl)
 obtain⟨x1,a1_0,n1_0,c1_0,a1_1,n1_1,c1_1,hv1,hs1_0,hs1_1⟩:=open_arg (opens_t29 (W:=W) (enc:=enc)) (fun u h1 h2=>by
  obtain⟨x,a1_0,n1_0,c1_0,a1_1,n1_1,c1_1,rfl,_⟩:=h2
  have h3:[Value.slice a1_0 n1_0 c1_0,Value.slice a1_1 n1_1 c1_1]=cs1.toList:=by simpa [Value.cells] using h1
  exact congrArg Value.agg (by rw [←Array.toArray_toList (xs:=cs1),←h3])) h1
 injection hv1 with hv1
 subst hv1
 obtain⟨z2,rfl⟩:=okWide_string Tryz.underlying9 (hval 2 9 v2 rfl rfl)
 obtain⟨x2,hv2,hs2⟩:=open_arg (t:=9) (T:=tStr) (W:=W) (enc:=enc) (P:=Tryz.prog) (opens_str Tryz.underlying9) (fun u h1 h2=>by
  obtain⟨x,rfl,_⟩:=h2
  simpa [Value.cells,sv] using h1) h2
 unfold sv at hv2
 injection hv2 with e1
 subst e1
 obtain⟨a3,n3,c3,rfl⟩:=okWide_slice Tryz.underlying22 (hval 3 22 v3 rfl rfl)
 obtain⟨x3,a3',n3',c3',hv3,hs3⟩:=open_arg (opens_t22 (W:=W) (enc:=enc)) (fun u h1 h2=>by
  obtain⟨x,a,n,c,rfl,_⟩:=h2
  simpa [Value.cells] using h1) h3
 injection hv3 with e1 e2 e3
 subst e1 e2 e3
 obtain⟨z4,rfl⟩:=okWide_int Tryz.underlying3 (hval 4 3 v4 rfl rfl)
 obtain⟨x4,hv4,hs4⟩:=open_arg (t:=3) (T:=tInt) (W:=W) (enc:=enc) (P:=Tryz.prog) (opens_int Tryz.underlying3) (fun u h1 h2=>by
  obtain⟨x,rfl,_⟩:=h2
  simpa [Value.cells] using h1) h4
 injection hv4 with e1 e2
 subst e2
 clear hA0 hval0
 simp only [List.append_nil] at hW'
 obtain⟨g1,rfl,_⟩:=var_stands hV (W':=W) rfl
 obtain⟨F,hF⟩:=law_exactBoundTop x0 x1 x2 x3 z4 (conf_lens hs0_0 hs0_1) (seg_lens hs1_0 hs1_1) (str_lens hs3)
 have hb0: ∀y∈p0,y.block<W.heap.size:=fun y hy=>hW'.lt y (by simp [hy])
 have hb1: ∀y∈p1,y.block<W.heap.size:=fun y hy=>hW'.lt y (by simp [hy])
 have hb2: ∀y∈p2,y.block<W.heap.size:=fun y hy=>hW'.lt y (by simp [hy])
 have hb3: ∀y∈p3,y.block<W.heap.size:=fun y hy=>hW'.lt y (by simp [hy])
 have hb4: ∀y∈p4,y.block<W.heap.size:=fun y hy=>hW'.lt y (by simp [hy])
 refine(ok_laws_FnExactBoundTop F (start_all W) hs0_0 hs0_1 hs1_0 hs1_1 hs2 hs3 hs4 hF).mono fun e W' ⟨K',he,hS⟩=>?_
 subst he
 have hB:=hS.below
 have hz0:0<W.heap.size:=by
  obtain⟨g,t,cs,fuel,d,p,_,h1,_,h3,_,_⟩:=trodVars_one hV
  obtain rfl:=Option.some.inj (gNone.symm.trans h1)
  rcases Nat.lt_or_ge 0 W.heap.size with h | h
  ·exact h
  ·simp only [World.var?,gNone,Option.bind_some,Array.getElem?_eq_none h] at h3
   cases h3
 obtain⟨g2,hg2,hk⟩:=var_stands hV (W':=W') (hS.old 0 hz0 (by simp))
 obtain rfl:g1=g2:=by injection hg2
 exact⟨_,rfl,post_of_below (pa:=(p0++(p1++(p2++(p3++(p4++[])))))) (pv:=q) hW' (fun _ _ _=>trodAll_mk1 (shut_bool Tryz.underlying4 _))
  (fun sp hsp=>trodAll_cons_mk (WideElems.Trod_stays laidB (by kernel_rfl) (of_decide_eq_true (by kernel_rfl)) h0 (fun y hy=>hB.same (hb0 y hy)) (fun y hy=>hsp y (by simp [hy]))) (trodAll_cons_mk (WideElems.Trod_stays laidB (by kernel_rfl) (of_decide_eq_true (by kernel_rfl)) h1 (fun y hy=>hB.same (hb1 y hy)) (fun y hy=>hsp y (by simp [hy]))) (trodAll_cons_mk (WideElems.Trod_stays laidB (by kernel_rfl) (of_decide_eq_true (by kernel_rfl)) h2 (fun y hy=>hB.same (hb2 y hy)) (fun y hy=>hsp y (by simp [hy]))) (trodAll_cons_mk (WideElems.Trod_stays laidB (by kernel_rfl) (of_decide_eq_true (by kernel_rfl)) h3 (fun y hy=>hB.same (hb3 y hy)) (fun y hy=>hsp y (by simp [hy]))) (trodAll_cons_mk (WideElems.Trod_stays laidB (by kernel_rfl) (of_decide_eq_true (by kernel_rfl)) h4 (fun y hy=>hB.same (hb4 y hy)) (fun y hy=>hsp y (by simp [hy]))) trodAll_mk0))))) (fun sp _=>hk sp) (by simp) hB
  (ok_one (by kernel_rfl) rfl (okWide_bool_mk Tryz.underlying4 _))⟩
theorem over:Rows.fnExactBoundTopRow.holds Tryz.pinned (OpenSpec.ofChange Rows.fnExactBoundTopSpec):=
 OpenClaim.holds_of_wide 4 Tryz.f4 rfl rfl rfl rfl rfl rfl rfl ⟨rfl,rfl,rfl,rfl,rfl⟩ rfl rfl rfl rfl rfl (by kernel_rfl) Tryz.func4 (by kernel_rfl)
  (of_decide_eq_true (by kernel_rfl)) (by unfold Func.isWrapper;first | (rw [if_pos (by decide +kernel)];kernel_rfl) | (rw [if_neg (by decide +kernel)];exact⟨rfl,rfl⟩))
  (fun os started H enc _=>lifted os started H enc)
theorem proved:Rows.FnExactBoundTopCardSaid:=
 Claim7.holds_tied_plain_at .later [] [.data] true (true,"cd562219c43a8104556cecc5be617d3b7aac99f6a6b957aaf5f70139d340360a") false
  over (fun _ h=>by cases h) (by kernel_rfl) (fun _ h=>by cases h) fnExactBoundTop_row_tie rfl ⟨rfl,rfl⟩ (by kernel_rfl) rfl
  (fun f fn hf hfn=>by
   obtain rfl:f=4:=Option.some.inj ((show Tryz.prog.funcNamed "loop.example/fossick/laws.FnExactBoundTop" =some 4 by kernel_rfl).symm.trans hf) |>.symm
   obtain rfl:fn=Tryz.f4:=(Option.some.inj (Tryz.func4.symm.trans hfn)).symm
   exact⟨by kernel_rfl,fun j t ht=>by
    rw [Tryz.params4] at ht
    have hm:t∈[25,29,9,22,3]:=by simpa using Array.mem_of_getElem? ht
    have hall:([25,29,9,22,3].all fun u=> !Tryz.prog.wantsStandIn u)=true:=by kernel_rfl
    exact(show Tryz.prog.wantsStandIn t=false by simpa using List.all_eq_true.1 hall t hm)⟩)
  (by kernel_rfl)
end Go.Proofs.YtfiahfncijjliaaGreatDoor.fnExactBoundTop
