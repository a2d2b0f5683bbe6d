/-
  'FnExactShardOfSaid' is proved: whatever arguments are handed in, 'laws.FnExactShardOf' returns true, and they read as they did. No conditions.
-/
import Derived.Test.YtpjefkdclnmlfaaRows
import Derived.Test.YtpjefkdclnmlfaaCoreM
import Derived.Test.YtpjefkdclnmlfaaOpens
import Derived.Test.YtpjefkdclnmlfaaLawExactShard
import Derived.Test.YtpjefkdclnmlfaaWalkA2
namespace Go.Proofs.Ytpjefkdclnmlfaa.fnExactShardOf
open Go.ChangeShapes Go.WideShapes Go.ChangeAt Go.RowKit Go.Fk
theorem own:ownKnob Try.prog.godebug=none:=by kernel_rfl
theorem laid:laidOutB Try.prog=true:=by kernel_rfl
set_option maxRecDepth 100000 in
theorem lifted (os:Os)(started:os.Started)(H:Type)(enc:TypeId×Value→H):
  ReturnsInHanded {} Try.checked os 4 .any (Rows.fnExactShardOfSpec.pre6 enc Try.prog Try.f4 Rows.fnExactShardOfRow.domain false) (Rows.fnExactShardOfSpec.post enc Try.prog Try.f4 false true false false):=by
 refine returnsInHanded_of_change (C:=Try.checked) own started (by kernel_rfl) Try.func4
  (ChangeSpec.witness6 (enc:=enc) (C:=Try.checked) false ⟨#[],#[.slice none 0 0,.int .i64 0,.int .i64 0],[]⟩ 8 (by kernel_rfl) (by kernel_rfl) (by kernel_rfl) (by kernel_rfl)) ?_
 intro W base args ds gs before hval0 hW _ _
 have hval: ∀(j:Nat) t v,Try.f4.params[j]? =some t→args[j]? =some v→Value.okWide Try.prog W .any base t v:=hval0
 have hW':=hW
 obtain⟨p,q,hA0,hV,rfl,_,_⟩:=hW
 have hA:DataW.TrodAll enc Try.prog W 0 (fun _=>true) true Try.f4.params.toList args.toList ds p:=hA0
 rw [Try.params4] at hA hval
 obtain⟨v0,vs0,d0,ds0,p0,q0,hargs,rfl,rfl,h0,r0⟩:=trodAll_cons hA
 obtain⟨v1,vs1,d1,ds1,p1,q1,rfl,rfl,rfl,h1,r1⟩:=trodAll_cons r0
 obtain⟨v2,vs2,d2,ds2,p2,q2,rfl,rfl,rfl,h2,r2⟩:=trodAll_cons r1
 obtain⟨rfl,rfl,rfl⟩:=trodAll_nil r2
 obtain rfl:args=#[v0,v1,v2]:=by cases args;simp_all
 obtain⟨rfl,rfl⟩:=trodVars_none hV
 obtain⟨a0,n0,c0,rfl⟩:=okWide_slice Try.underlying31 (hval 0 31 v0 rfl rfl)
 obtain⟨x0,a0',n0',c0',hv0,hs0⟩:=open_arg (opens_t31 (W:=W) (enc:=enc)) (fun u h1 h2=>by
  obtain⟨x,a,n,c,rfl,_⟩:=h2
  simpa [Value.cells] using h1) h0
 injection hv0 with e1 e2 e3
 subst e1 e2 e3
 obtain⟨z1,rfl⟩:=okWide_int Try.underlying3 (hval 1 3 v1 rfl rfl)
 obtain⟨x1,hv1,hs1⟩:=open_arg (t:=3) (T:=tInt) (W:=W) (enc:=enc) (P:=Try.prog) (opens_int Try.underlying3) (fun u h1 h2=>by
  obtain⟨x,rfl,_⟩:=h2
  simpa [Value.cells] using h1) h1
 injection hv1 with e1 e2
 subst e2
 obtain⟨z2,rfl⟩:=okWide_int Try.underlying3 (hval 2 3 v2 rfl rfl)
 obtain⟨x2,hv2,hs2⟩:=open_arg (t:=3) (T:=tInt) (W:=W) (enc:=enc) (P:=Try.prog) (opens_int Try.underlying3) (fun u h1 h2=>by
  obtain⟨x,rfl,_⟩:=h2
  simpa [Value.cells] using h1) h2
 injection hv2 with e1 e2
 subst e2
 clear hA0 hval0
 simp only [List.append_nil] at hW'
 obtain⟨F,hF⟩:=law_exactShardOf x0 z1 z2 (docs_lens hs0)
 have hb0: ∀y∈p0,y.block<W.heap.size:=fun y hy=>hW'.lt y (by simp [hy])
 have hb1: ∀y∈p1,y.block<W.heap.size:=fun y hy=>hW'.lt y (by simp [hy])
 have hb2: ∀y∈p2,y.block<W.heap.size:=fun y hy=>hW'.lt y (by simp [hy])
 refine(ok_laws_FnExactShardOf F (start_all W) hs0 hs1 hs2 hF).mono fun e W' ⟨K',he,hS⟩=>?_
 subst he
 have hB:=hS.below
 exact⟨_,rfl,post_of_below (pa:=(p0++(p1++(p2++[])))) (pv:=[]) hW' (fun _ _ _=>trodAll_mk1 (shut_bool Try.underlying4 _))
  (fun sp hsp=>trodAll_cons_mk (WideElems.Trod_stays laid (by kernel_rfl) (of_decide_eq_true (by kernel_rfl)) h0 (fun y hy=>hB.same (hb0 y hy)) (fun y hy=>hsp y (by simp [hy]))) (trodAll_cons_mk (WideElems.Trod_stays laid (by kernel_rfl) (of_decide_eq_true (by kernel_rfl)) h1 (fun y hy=>hB.same (hb1 y hy)) (fun y hy=>hsp y (by simp [hy]))) (trodAll_cons_mk (WideElems.Trod_stays laid (by kernel_rfl) (of_decide_eq_true (by kernel_rfl)) h2 (fun y hy=>hB.same (hb2 y hy)) (fun y hy=>hsp y (by simp [hy]))) trodAll_mk0))) (fun _ _=>rfl) (by simp) hB
  (ok_one (by kernel_rfl) rfl (okWide_bool_mk Try.underlying4 _))⟩
theorem jA:(Rows.fnExactShardOfRow.inPlace==Try.pinned.checked.prog.inPlace 4)=true:=by kernel_rfl
theorem jB:(Rows.fnExactShardOfRow.unfollowed==Try.pinned.checked.prog.unfollowed 4)=true:=by kernel_rfl
theorem jC:(Rows.fnExactShardOfRow.recurses==Try.pinned.checked.prog.recurses 4)=true:=by kernel_rfl
theorem jD:(Rows.fnExactShardOfRow.named==Try.pinned.checked.prog.varsNamed 4)=true:=by kernel_rfl
theorem jE:(Rows.fnExactShardOfRow.wf (OpenSpec.ofChange Rows.fnExactShardOfSpec)&&laidOutB Try.pinned.checked.prog&&mapsRowed Try.pinned.checked.prog)=true:=by kernel_rfl
set_option maxRecDepth 100000 in
theorem closed:joinedFacts Try.pinned.checked.prog 4 Try.f4 Rows.fnExactShardOfSpec Rows.fnExactShardOfRow=true:=by
 unfold joinedFacts
 rw [jA,jB,jC,jD,jE]
 kernel_rfl
theorem over:Rows.fnExactShardOfRow.holds Try.pinned (OpenSpec.ofChange Rows.fnExactShardOfSpec):=
 OpenClaim.holds_of_wide 4 Try.f4 rfl rfl rfl rfl rfl rfl rfl ⟨rfl,rfl,rfl,rfl,rfl⟩ rfl rfl rfl rfl rfl (by kernel_rfl) Try.func4 closed
  (of_decide_eq_true (by kernel_rfl)) (by unfold Func.isWrapper;first | (rw [if_pos (by decide +kernel)];kernel_rfl) | (rw [if_neg (by decide +kernel)];exact⟨rfl,rfl⟩))
  (fun os started H enc _=>lifted os started H enc)
theorem proved:Rows.FnExactShardOfSaid:=over
end Go.Proofs.Ytpjefkdclnmlfaa.fnExactShardOf
