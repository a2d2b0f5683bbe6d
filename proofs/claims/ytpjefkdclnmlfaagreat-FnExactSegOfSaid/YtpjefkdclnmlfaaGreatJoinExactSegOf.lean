/-
  'FnExactSegOfSaid' is proved: whatever arguments are handed in, 'laws.FnExactSegOf' returns true, and they read as they did. No conditions.
-/
import Derived.Test.YtpjefkdclnmlfaaGreatRows
import Derived.Test.YtpjefkdclnmlfaaGreatCoreM
import Derived.Test.YtpjefkdclnmlfaaGreatOpens
import Derived.Test.YtpjefkdclnmlfaaGreatLawExactSegOf
import Derived.Test.YtpjefkdclnmlfaaGreatWalkA6
namespace Go.Proofs.YtpjefkdclnmlfaaGreat.fnExactSegOf
open Go.ChangeShapes Go.WideShapes Go.ChangeAt Go.RowKit Go.Fk
theorem own:ownKnob Tryz.prog.godebug=none:=by kernel_rfl
theorem laid:laidOutB Tryz.prog=true:=by kernel_rfl
set_option maxRecDepth 100000 in
theorem lifted (os:Os)(started:os.Started)(H:Type)(enc:TypeId×Value→H):
  ReturnsInHanded {} Tryz.checked os 4 .any (Rows.fnExactSegOfSpec.pre6 enc Tryz.prog Tryz.f4 Rows.fnExactSegOfRow.domain false) (Rows.fnExactSegOfSpec.post enc Tryz.prog Tryz.f4 false true false false):=by
 refine returnsInHanded_of_change (C:=Tryz.checked) own started (by kernel_rfl) Tryz.func4
  (ChangeSpec.witness6 (enc:=enc) (C:=Tryz.checked) false ⟨#[],#[.agg #[.slice none 0 0,.slice none 0 0],.slice none 0 0],[]⟩ 8 (by kernel_rfl) (by kernel_rfl) (by kernel_rfl) (by kernel_rfl)) ?_
 intro W base args ds gs before hval0 hW _ _
 have hval: ∀(j:Nat) t v,Tryz.f4.params[j]? =some t→args[j]? =some v→Value.okWide Tryz.prog W .any base t v:=hval0
 have hW':=hW
 obtain⟨p,q,hA0,hV,rfl,_,_⟩:=hW
 have hA:DataW.TrodAll enc Tryz.prog W 0 (fun _=>true) true Tryz.f4.params.toList args.toList ds p:=hA0
 rw [Tryz.params4] at hA hval
 obtain⟨v0,vs0,d0,ds0,p0,q0,hargs,rfl,rfl,h0,r0⟩:=trodAll_cons hA
 obtain⟨v1,vs1,d1,ds1,p1,q1,rfl,rfl,rfl,h1,r1⟩:=trodAll_cons r0
 obtain⟨rfl,rfl,rfl⟩:=trodAll_nil r1
 obtain rfl:args=#[v0,v1]:=by cases args;simp_all
 obtain⟨rfl,rfl⟩:=trodVars_none hV
 obtain⟨cs0,rfl,hsz0⟩:=okWide_struct Tryz.underlying25 (hval 0 25 v0 rfl rfl)
 obtain⟨x0,a0_0,n0_0,c0_0,a0_1,n0_1,c0_1,hv0,hs0_0,hs0_1⟩:=open_arg (opens_t25 (W:=W) (enc:=enc)) (fun u h1 h2=>by
  obtain⟨x,a0_0,n0_0,c0_0,a0_1,n0_1,c0_1,rfl,_⟩:=h2
  have h3:[Value.slice a0_0 n0_0 c0_0,Value.slice a0_1 n0_1 c0_1]=cs0.toList:=by simpa [Value.cells] using h1
  exact congrArg Value.agg (by rw [←Array.toArray_toList (xs:=cs0),←h3])) h0
 injection hv0 with hv0
 subst hv0
 obtain⟨a1,n1,c1,rfl⟩:=okWide_slice Tryz.underlying40 (hval 1 40 v1 rfl rfl)
 obtain⟨x1,a1',n1',c1',hv1,hs1⟩:=open_arg (opens_t40 (W:=W) (enc:=enc)) (fun u h1 h2=>by
  obtain⟨x,a,n,c,rfl,_⟩:=h2
  simpa [Value.cells] using h1) h1
 injection hv1 with e1 e2 e3
 subst e1 e2 e3
 clear hA0 hval0
 simp only [List.append_nil] at hW'
 obtain⟨F,hF⟩:=law_exactSegOf x0 x1 (conf_lens hs0_0 hs0_1) (docs_lens hs1)
 have hb0: ∀y∈p0,y.block<W.heap.size:=fun y hy=>hW'.lt y (by simp [hy])
 have hb1: ∀y∈p1,y.block<W.heap.size:=fun y hy=>hW'.lt y (by simp [hy])
 refine(ok_laws_FnExactSegOf F (start_all W) hs0_0 hs0_1 hs1 hF).mono fun e W' ⟨K',he,hS⟩=>?_
 subst he
 have hB:=hS.below
 exact⟨_,rfl,post_of_below (pa:=(p0++(p1++[]))) (pv:=[]) hW' (fun _ _ _=>trodAll_mk1 (shut_bool Tryz.underlying4 _))
  (fun sp hsp=>trodAll_cons_mk (WideElems.Trod_stays laid (by kernel_rfl) (of_decide_eq_true (by kernel_rfl)) h0 (fun y hy=>hB.same (hb0 y hy)) (fun y hy=>hsp y (by simp [hy]))) (trodAll_cons_mk (WideElems.Trod_stays laid (by kernel_rfl) (of_decide_eq_true (by kernel_rfl)) h1 (fun y hy=>hB.same (hb1 y hy)) (fun y hy=>hsp y (by simp [hy]))) trodAll_mk0)) (fun _ _=>rfl) (by simp) hB
  (ok_one (by kernel_rfl) rfl (okWide_bool_mk Tryz.underlying4 _))⟩
theorem jA:(Rows.fnExactSegOfRow.inPlace==Tryz.pinned.checked.prog.inPlace 4)=true:=by kernel_rfl
theorem jB:(Rows.fnExactSegOfRow.unfollowed==Tryz.pinned.checked.prog.unfollowed 4)=true:=by kernel_rfl
theorem jC:(Rows.fnExactSegOfRow.recurses==Tryz.pinned.checked.prog.recurses 4)=true:=by kernel_rfl
theorem jD:(Rows.fnExactSegOfRow.named==Tryz.pinned.checked.prog.varsNamed 4)=true:=by kernel_rfl
theorem jE:(Rows.fnExactSegOfRow.wf (OpenSpec.ofChange Rows.fnExactSegOfSpec)&&laidOutB Tryz.pinned.checked.prog&&mapsRowed Tryz.pinned.checked.prog)=true:=by kernel_rfl
set_option maxRecDepth 100000 in
theorem closed:joinedFacts Tryz.pinned.checked.prog 4 Tryz.f4 Rows.fnExactSegOfSpec Rows.fnExactSegOfRow=true:=by
 unfold joinedFacts
 rw [jA,jB,jC,jD,jE]
 kernel_rfl
theorem over:Rows.fnExactSegOfRow.holds Tryz.pinned (OpenSpec.ofChange Rows.fnExactSegOfSpec):=
 OpenClaim.holds_of_wide 4 Tryz.f4 rfl rfl rfl rfl rfl rfl rfl ⟨rfl,rfl,rfl,rfl,rfl⟩ rfl rfl rfl rfl rfl (by kernel_rfl) Tryz.func4 closed
  (of_decide_eq_true (by kernel_rfl)) (by unfold Func.isWrapper;first | (rw [if_pos (by decide +kernel)];kernel_rfl) | (rw [if_neg (by decide +kernel)];exact⟨rfl,rfl⟩))
  (fun os started H enc _=>lifted os started H enc)
theorem proved:Rows.FnExactSegOfSaid:=over
end Go.Proofs.YtpjefkdclnmlfaaGreat.fnExactSegOf
