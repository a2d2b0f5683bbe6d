/-
  'FnExactSegPostsSaid' is proved: whatever arguments are handed in, 'laws.FnExactSegPosts' returns true, and they read as they did. No conditions.
-/
import Derived.Test.YtpjefkdclnmlfaaGreatRows
import Derived.Test.YtpjefkdclnmlfaaGreatCoreM
import Derived.Test.YtpjefkdclnmlfaaGreatOpens
import Derived.Test.YtpjefkdclnmlfaaGreatLawExactPosts
import Derived.Test.YtpjefkdclnmlfaaGreatWalkA7
namespace Go.Proofs.YtpjefkdclnmlfaaGreat.fnExactSegPosts
open Go.ChangeShapes Go.WideShapes Go.ChangeAt Go.RowKit Go.Fk
theorem own:ownKnob Tryz.prog.godebug=none:=by kernel_rfl
theorem laid:laidOutB Tryz.prog=true:=by kernel_rfl
set_option maxRecDepth 100000 in
theorem lifted (os:Os)(started:os.Started)(H:Type)(enc:TypeId×Value→H):
  ReturnsInHanded {} Tryz.checked os 5 .any (Rows.fnExactSegPostsSpec.pre6 enc Tryz.prog Tryz.f5 Rows.fnExactSegPostsRow.domain false) (Rows.fnExactSegPostsSpec.post enc Tryz.prog Tryz.f5 false true false false):=by
 refine returnsInHanded_of_change (C:=Tryz.checked) own started (by kernel_rfl) Tryz.func5
  (ChangeSpec.witness6 (enc:=enc) (C:=Tryz.checked) false ⟨#[],#[.agg #[.slice none 0 0,.slice none 0 0],.agg #[.slice none 0 0,.slice none 0 0],.string ⟨#[]⟩,.string ⟨#[]⟩],[]⟩ 8 (by kernel_rfl) (by kernel_rfl) (by kernel_rfl) (by kernel_rfl)) ?_
 intro W base args ds gs before hval0 hW _ _
 have hval: ∀(j:Nat) t v,Tryz.f5.params[j]? =some t→args[j]? =some v→Value.okWide Tryz.prog W .any base t v:=hval0
 have hW':=hW
 obtain⟨p,q,hA0,hV,rfl,_,_⟩:=hW
 have hA:DataW.TrodAll enc Tryz.prog W 0 (fun _=>true) true Tryz.f5.params.toList args.toList ds p:=hA0
 rw [Tryz.params5] at hA hval
 obtain⟨v0,vs0,d0,ds0,p0,q0,hargs,rfl,rfl,h0,r0⟩:=trodAll_cons hA
 obtain⟨v1,vs1,d1,ds1,p1,q1,rfl,rfl,rfl,h1,r1⟩:=trodAll_cons r0
 obtain⟨v2,vs2,d2,ds2,p2,q2,rfl,rfl,rfl,h2,r2⟩:=trodAll_cons r1
 obtain⟨v3,vs3,d3,ds3,p3,q3,rfl,rfl,rfl,h3,r3⟩:=trodAll_cons r2
 obtain⟨rfl,rfl,rfl⟩:=trodAll_nil r3
 obtain rfl:args=#[v0,v1,v2,v3]:=by cases args;simp_all
 obtain⟨rfl,rfl⟩:=trodVars_none hV
 obtain⟨cs0,rfl,hsz0⟩:=okWide_struct Tryz.underlying25 (hval 0 25 v0 rfl rfl)
 obtain⟨x0,a0_0,n0_0,c0_0,a0_1,n0_1,c0_1,hv0,hs0_0,hs0_1⟩:=open_arg (opens_t25 (W:=W) (enc:=enc)) (fun u h1 h2=>by
  obtain⟨x,a0_0,n0_0,c0_0,a0_1,n0_1,c0_1,rfl,_⟩:=h2
  have h3:[Value.slice a0_0 n0_0 c0_0,Value.slice a0_1 n0_1 c0_1]=cs0.toList:=by simpa [Value.cells] using h1
  exact congrArg Value.agg (by rw [←Array.toArray_toList (xs:=cs0),←h3])) h0
 injection hv0 with hv0
 subst hv0
 obtain⟨cs1,rfl,hsz1⟩:=okWide_struct Tryz.underlying59 (hval 1 59 v1 rfl rfl)
 obtain⟨x1,a1_0,n1_0,c1_0,a1_1,n1_1,c1_1,hv1,hs1_0,hs1_1⟩:=open_arg (opens_t59 (W:=W) (enc:=enc)) (fun u h1 h2=>by
  obtain⟨x,a1_0,n1_0,c1_0,a1_1,n1_1,c1_1,rfl,_⟩:=h2
  have h3:[Value.slice a1_0 n1_0 c1_0,Value.slice a1_1 n1_1 c1_1]=cs1.toList:=by simpa [Value.cells] using h1
  exact congrArg Value.agg (by rw [←Array.toArray_toList (xs:=cs1),←h3])) h1
 injection hv1 with hv1
 subst hv1
 obtain⟨z2,rfl⟩:=okWide_string Tryz.underlying9 (hval 2 9 v2 rfl rfl)
 obtain⟨x2,hv2,hs2⟩:=open_arg (t:=9) (T:=tStr) (W:=W) (enc:=enc) (P:=Tryz.prog) (opens_str Tryz.underlying9) (fun u h1 h2=>by
  obtain⟨x,rfl,_⟩:=h2
  simpa [Value.cells,sv] using h1) h2
 unfold sv at hv2
 injection hv2 with e1
 subst e1
 obtain⟨z3,rfl⟩:=okWide_string Tryz.underlying9 (hval 3 9 v3 rfl rfl)
 obtain⟨x3,hv3,hs3⟩:=open_arg (t:=9) (T:=tStr) (W:=W) (enc:=enc) (P:=Tryz.prog) (opens_str Tryz.underlying9) (fun u h1 h2=>by
  obtain⟨x,rfl,_⟩:=h2
  simpa [Value.cells,sv] using h1) h3
 unfold sv at hv3
 injection hv3 with e1
 subst e1
 clear hA0 hval0
 simp only [List.append_nil] at hW'
 obtain⟨F,hF⟩:=law_exactSegPosts x0 x1 x2 x3 (conf_lens hs0_0 hs0_1) (seg_lens hs1_0 hs1_1)
 have hb0: ∀y∈p0,y.block<W.heap.size:=fun y hy=>hW'.lt y (by simp [hy])
 have hb1: ∀y∈p1,y.block<W.heap.size:=fun y hy=>hW'.lt y (by simp [hy])
 have hb2: ∀y∈p2,y.block<W.heap.size:=fun y hy=>hW'.lt y (by simp [hy])
 have hb3: ∀y∈p3,y.block<W.heap.size:=fun y hy=>hW'.lt y (by simp [hy])
 refine(ok_laws_FnExactSegPosts F (start_all W) hs0_0 hs0_1 hs1_0 hs1_1 hs2 hs3 hF).mono fun e W' ⟨K',he,hS⟩=>?_
 subst he
 have hB:=hS.below
 exact⟨_,rfl,post_of_below (pa:=(p0++(p1++(p2++(p3++[]))))) (pv:=[]) hW' (fun _ _ _=>trodAll_mk1 (shut_bool Tryz.underlying4 _))
  (fun sp hsp=>trodAll_cons_mk (WideElems.Trod_stays laid (by kernel_rfl) (of_decide_eq_true (by kernel_rfl)) h0 (fun y hy=>hB.same (hb0 y hy)) (fun y hy=>hsp y (by simp [hy]))) (trodAll_cons_mk (WideElems.Trod_stays laid (by kernel_rfl) (of_decide_eq_true (by kernel_rfl)) h1 (fun y hy=>hB.same (hb1 y hy)) (fun y hy=>hsp y (by simp [hy]))) (trodAll_cons_mk (WideElems.Trod_stays laid (by kernel_rfl) (of_decide_eq_true (by kernel_rfl)) h2 (fun y hy=>hB.same (hb2 y hy)) (fun y hy=>hsp y (by simp [hy]))) (trodAll_cons_mk (WideElems.Trod_stays laid (by kernel_rfl) (of_decide_eq_true (by kernel_rfl)) h3 (fun y hy=>hB.same (hb3 y hy)) (fun y hy=>hsp y (by simp [hy]))) trodAll_mk0)))) (fun _ _=>rfl) (by simp) hB
  (ok_one (by kernel_rfl) rfl (okWide_bool_mk Tryz.underlying4 _))⟩
theorem jA:(Rows.fnExactSegPostsRow.inPlace==Tryz.pinned.checked.prog.inPlace 5)=true:=by kernel_rfl
theorem jB:(Rows.fnExactSegPostsRow.unfollowed==Tryz.pinned.checked.prog.unfollowed 5)=true:=by kernel_rfl
theorem jC:(Rows.fnExactSegPostsRow.recurses==Tryz.pinned.checked.prog.recurses 5)=true:=by kernel_rfl
theorem jD:(Rows.fnExactSegPostsRow.named==Tryz.pinned.checked.prog.varsNamed 5)=true:=by kernel_rfl
theorem jE:(Rows.fnExactSegPostsRow.wf (OpenSpec.ofChange Rows.fnExactSegPostsSpec)&&laidOutB Tryz.pinned.checked.prog&&mapsRowed Tryz.pinned.checked.prog)=true:=by kernel_rfl
set_option maxRecDepth 100000 in
theorem closed:joinedFacts Tryz.pinned.checked.prog 5 Tryz.f5 Rows.fnExactSegPostsSpec Rows.fnExactSegPostsRow=true:=by
 unfold joinedFacts
 rw [jA,jB,jC,jD,jE]
 kernel_rfl
theorem over:Rows.fnExactSegPostsRow.holds Tryz.pinned (OpenSpec.ofChange Rows.fnExactSegPostsSpec):=
 OpenClaim.holds_of_wide 5 Tryz.f5 rfl rfl rfl rfl rfl rfl rfl ⟨rfl,rfl,rfl,rfl,rfl⟩ rfl rfl rfl rfl rfl (by kernel_rfl) Tryz.func5 closed
  (of_decide_eq_true (by kernel_rfl)) (by unfold Func.isWrapper;first | (rw [if_pos (by decide +kernel)];kernel_rfl) | (rw [if_neg (by decide +kernel)];exact⟨rfl,rfl⟩))
  (fun os started H enc _=>lifted os started H enc)
theorem proved:Rows.FnExactSegPostsSaid:=over
end Go.Proofs.YtpjefkdclnmlfaaGreat.fnExactSegPosts
