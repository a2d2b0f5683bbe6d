/-
  'FnExactLivePutCardSaid' is proved: whatever arguments are handed in, 'laws.FnExactLivePut' returns true, they read as they did, and so does the listed variable. No conditions but the card's own.
-/
import Derived.Test.YtpdfkjjmcnhakaaGreatDoorRows
import Derived.Test.YtpdfkjjmcnhakaaGreatDoorCards
import Derived.Test.YtpdfkjjmcnhakaaGreatDoorTie
import Derived.Test.YtpdfkjjmcnhakaaGreatDoorCoreMR
import Derived.Test.YtpdfkjjmcnhakaaGreatDoorOpens
import Derived.Test.YtpdfkjjmcnhakaaGreatDoorLawExactLive
import Derived.Test.YtpdfkjjmcnhakaaGreatDoorWalkA8
import Derived.Lib.LaidTab
import Derived.Stop.LaidErr
import Derived.MakeChecks
import Derived.ChangeVars
import Derived.LaidMore
import Derived.LaidHandle
import Derived.LaidLaws
import Derived.Stop.Joined
import Derived.SevenTiedAt
import Derived.JoinedOf
import Derived.JoinedAt
namespace Go.Proofs.YtpdfkjjmcnhakaaGreatDoor.fnExactLivePut
open Go.ChangeShapes Go.WideShapes Go.ChangeAt Go.RowKit Go.Fk
theorem own:ownKnob Tryz.prog.godebug=none:=by kernel_rfl
theorem laidB:laidOutB Tryz.prog=true:=by kernel_rfl
def laid:List (String×DataW Unit):=[("math/bits.deBruijn32tab",Rows.laid_math_bits_deBruijn32tab),("math/bits.deBruijn64tab",Rows.laid_math_bits_deBruijn64tab),("internal/strconv.uint64pow10",Rows.laid_internal_strconv_uint64pow10)]
theorem door_met (os:Os)(args:Array Value):laidMetH Tryz.prog laid ((World.doorLaid Tryz.prog 4000 os).forCall (fun _ _=>0) ⟨#[],args,[]⟩).memory:=
 laidMetH_of_parts3 (fuel:=8) (laidMet_of_run' 8 (by kernel_rfl) (by kernel_rfl)) (by kernel_rfl) (by kernel_rfl)
theorem tab_is {W:World}(h:laidMetH Tryz.prog laid W):Tab10 W:=by
 rw [MakeChecks.laidMetH_plain _ _ _ (by kernel_rfl)] at h
 have h2:laidMet Tryz.prog [("internal/strconv.uint64pow10",Lib.tabData .u64 Lib.pow10Tab)] W:=((h.tail).tail)
 exact Lib.tabIs_of_head (n:=20) (show Tryz.prog.globalNamed "internal/strconv.uint64pow10" =some 1 by kernel_rfl) (show (Tryz.prog.globals[1]?).map (·.type)=some 283 by kernel_rfl) Tryz.underlying283 Tryz.underlying230 (by kernel_rfl) (by kernel_rfl) h2
set_option maxRecDepth 100000 in
theorem lifted (os:Os)(started:os.Started)(H:Type)(enc:TypeId×Value→H):
  ReturnsInHanded {} Tryz.checked os 3 .any (fun w args=>(Rows.fnExactLivePutSpec.pre enc Tryz.prog Tryz.f3 [] false w args∧laidMetH Tryz.prog laid w)∧sizedMet enc Tryz.prog Tryz.f3 (OpenSpec.ofChange Rows.fnExactLivePutSpec) false w args)
   (Rows.fnExactLivePutSpec.post enc Tryz.prog Tryz.f3 false true false false):=by
 refine returnsInHanded_of_change_and (C:=Tryz.checked) (X:=fun w _=>laidMetH Tryz.prog laid w) (fun _ _ _ hh h=>h.of_heap hh) own started (by kernel_rfl) Tryz.func3
  (ChangeSpec.witness_shaped (enc:=enc) (C:=Tryz.checked) (os:=os) (X:=fun w _=>laidMetH Tryz.prog laid w) false (World.doorLaid Tryz.prog 4000 os) #[.agg #[.slice none 0 0,.slice none 0 0],.agg #[.slice none 0 0,.slice none 0 0,.slice none 0 0]] 8 rfl (World.shaped_of_RefB (by kernel_rfl) (by kernel_rfl)) (by kernel_rfl) (by kernel_rfl) (by kernel_rfl) (door_met os _)) ?_
 intro W base args ds gs before hval0 hW _ _ hL _
 have hval: ∀(j:Nat) t v,Tryz.f3.params[j]? =some t→args[j]? =some v→Value.okWide Tryz.prog W .any base t v:=hval0
 have hW':=hW
 obtain⟨p,q,hA0,hV,rfl,_,_⟩:=hW
 have hA:DataW.TrodAll enc Tryz.prog W 0 (fun _=>true) true Tryz.f3.params.toList args.toList ds p:=hA0
 rw [Tryz.params3] at hA hval
 obtain⟨v0,vs0,d0,ds0,p0,q0,hargs,rfl,rfl,h0,r0⟩:=trodAll_cons hA
 obtain⟨v1,vs1,d1,ds1,p1,q1,rfl,rfl,rfl,h1,r1⟩:=trodAll_cons r0
 obtain⟨rfl,rfl,rfl⟩:=trodAll_nil r1
 obtain rfl:args=#[v0,v1]:=by cases args;simp_all
 obtain⟨cs0,rfl,hsz0⟩:=okWide_struct Tryz.underlying25 (hval 0 25 v0 rfl rfl)
 obtain⟨x0,a0_0,n0_0,c0_0,a0_1,n0_1,c0_1,hv0,hs0_0,hs0_1⟩:=open_arg (opens_t25 (W:=W) (enc:=enc)) (fun u h1 h2=>by
  obtain⟨x,a0_0,n0_0,c0_0,a0_1,n0_1,c0_1,rfl,_⟩:=h2
  have h3:[Value.slice a0_0 n0_0 c0_0,Value.slice a0_1 n0_1 c0_1]=cs0.toList:=by simpa [Value.cells] using h1
  exact congrArg Value.agg (by rw [←Array.toArray_toList (xs:=cs0),←h3])) h0
 injection hv0 with hv0
 subst hv0
 obtain⟨cs1,rfl,hsz1⟩:=okWide_struct Tryz.underlying32 (hval 1 32 v1 rfl rfl)
 obtain⟨x1,a1_0,n1_0,c1_0,a1_1,n1_1,c1_1,a1_2,n1_2,c1_2,hv1,hs1_0,hs1_1,hs1_2⟩:=open_arg (opens_t32 (W:=W) (enc:=enc)) (fun u h1 h2=>by
  obtain⟨x,a1_0,n1_0,c1_0,a1_1,n1_1,c1_1,a1_2,n1_2,c1_2,rfl,_⟩:=h2
  have h3:[Value.slice a1_0 n1_0 c1_0,Value.slice a1_1 n1_1 c1_1,Value.slice a1_2 n1_2 c1_2]=cs1.toList:=by simpa [Value.cells] using h1
  exact congrArg Value.agg (by rw [←Array.toArray_toList (xs:=cs1),←h3])) h1
 injection hv1 with hv1
 subst hv1
 clear hA0 hval0
 simp only [List.append_nil] at hW'
 obtain⟨rfl,rfl⟩:=trodVars_none hV
 obtain⟨F,hF⟩:=law_exactLivePut x0 x1 (conf_lens hs0_0 hs0_1) ⟨seg_lens hs1_0 hs1_1,hs1_2.max⟩
 have hb0: ∀y∈p0,y.block<W.heap.size:=fun y hy=>hW'.lt y (by simp [hy])
 have hb1: ∀y∈p1,y.block<W.heap.size:=fun y hy=>hW'.lt y (by simp [hy])
 refine(ok_laws_FnExactLivePut F (start_all W) hs0_0 hs0_1 hs1_0 hs1_1 hs1_2 (tab_is hL) hF).mono fun e W' ⟨K',he,hS⟩=>?_
 subst he
 have hB:=hS.below
 exact⟨_,rfl,post_of_below (pa:=(p0++(p1++[]))) (pv:=[]) hW' (fun _ _ _=>trodAll_mk1 (shut_bool Tryz.underlying4 _))
  (fun sp hsp=>trodAll_cons_mk (WideElems.Trod_stays laidB (by kernel_rfl) (of_decide_eq_true (by kernel_rfl)) h0 (fun y hy=>hB.same (hb0 y hy)) (fun y hy=>hsp y (by simp [hy]))) (trodAll_cons_mk (WideElems.Trod_stays laidB (by kernel_rfl) (of_decide_eq_true (by kernel_rfl)) h1 (fun y hy=>hB.same (hb1 y hy)) (fun y hy=>hsp y (by simp [hy]))) trodAll_mk0)) (fun _ _=>rfl) (by simp) hB
  (ok_one (by kernel_rfl) rfl (okWide_bool_mk Tryz.underlying4 _))⟩
theorem over:Rows.fnExactLivePutRow.holds Tryz.pinned (OpenSpec.ofChange Rows.fnExactLivePutSpec):=
 OpenClaim.holds_of_wide 3 Tryz.f3 rfl rfl rfl rfl rfl rfl rfl ⟨rfl,rfl,rfl,rfl,rfl⟩ rfl rfl rfl rfl rfl (by kernel_rfl) Tryz.func3 (by kernel_rfl)
  (of_decide_eq_true (by kernel_rfl)) (by unfold Func.isWrapper;first | (rw [if_pos (by decide +kernel)];kernel_rfl) | (rw [if_neg (by decide +kernel)];exact⟨rfl,rfl⟩))
  (fun os started H enc _=>lifted os started H enc)
theorem proved:Rows.FnExactLivePutCardSaid:=
 Claim7.holds_tied_plain_at .later [] [.data,.data,.data] true (true,"51286da14f3dff517baf43c07e881b93bf88a88cb747d3fbb6382aa75e795b74") false
  over (fun _ h=>by cases h) (by kernel_rfl) (fun _ h=>by cases h) fnExactLivePut_row_tie rfl ⟨rfl,rfl⟩ (by kernel_rfl) rfl
  (fun f fn hf hfn=>by
   obtain rfl:f=3:=Option.some.inj ((show Tryz.prog.funcNamed "loop.example/fossick/laws.FnExactLivePut" =some 3 by kernel_rfl).symm.trans hf) |>.symm
   obtain rfl:fn=Tryz.f3:=(Option.some.inj (Tryz.func3.symm.trans hfn)).symm
   exact⟨by kernel_rfl,fun j t ht=>by
    rw [Tryz.params3] at ht
    have hm:t∈[25,32]:=by simpa using Array.mem_of_getElem? ht
    have hall:([25,32].all fun u=> !Tryz.prog.wantsStandIn u)=true:=by kernel_rfl
    exact(show Tryz.prog.wantsStandIn t=false by simpa using List.all_eq_true.1 hall t hm)⟩)
  (by kernel_rfl)
end Go.Proofs.YtpdfkjjmcnhakaaGreatDoor.fnExactLivePut
