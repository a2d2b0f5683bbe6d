/-
  'FnExactDawgOfSaid' is proved: whatever arguments are handed in, 'laws.FnExactDawgOf' returns true, and they read as they did. No conditions.
-/
import Derived.Test.YtpjefkdclnmlfaaRows
import Derived.Test.YtpjefkdclnmlfaaCoreM
import Derived.Test.YtpjefkdclnmlfaaOpens
import Derived.Test.YtpjefkdclnmlfaaLawExactDawg
import Derived.Test.YtpjefkdclnmlfaaWalkA1
namespace Go.Proofs.Ytpjefkdclnmlfaa.fnExactDawgOf
open Go.ChangeShapes Go.WideShapes Go.ChangeAt Go.RowKit Go.Fk
theorem own:ownKnob Try.prog.godebug=none:=by kernel_rfl
theorem laid:laidOutB Try.prog=true:=by kernel_rfl
set_option maxRecDepth 100000 in
theorem lifted (os:Os)(started:os.Started)(H:Type)(enc:TypeId×Value→H):
  ReturnsInHanded {} Try.checked os 3 .any (Rows.fnExactDawgOfSpec.pre6 enc Try.prog Try.f3 Rows.fnExactDawgOfRow.domain false) (Rows.fnExactDawgOfSpec.post enc Try.prog Try.f3 false true false false):=by
 refine returnsInHanded_of_change (C:=Try.checked) own started (by kernel_rfl) Try.func3
  (ChangeSpec.witness6 (enc:=enc) (C:=Try.checked) false ⟨#[],#[.slice none 0 0],[]⟩ 8 (by kernel_rfl) (by kernel_rfl) (by kernel_rfl) (by kernel_rfl)) ?_
 intro W base args ds gs before hval0 hW _ _
 have hval: ∀(j:Nat) t v,Try.f3.params[j]? =some t→args[j]? =some v→Value.okWide Try.prog W .any base t v:=hval0
 have hW':=hW
 obtain⟨p,q,hA0,hV,rfl,_,_⟩:=hW
 have hA:DataW.TrodAll enc Try.prog W 0 (fun _=>true) true Try.f3.params.toList args.toList ds p:=hA0
 rw [Try.params3] at hA hval
 obtain⟨v0,vs0,d0,ds0,p0,q0,hargs,rfl,rfl,h0,r0⟩:=trodAll_cons hA
 obtain⟨rfl,rfl,rfl⟩:=trodAll_nil r0
 obtain rfl:args=#[v0]:=by cases args;simp_all
 obtain⟨rfl,rfl⟩:=trodVars_none hV
 obtain⟨a0,n0,c0,rfl⟩:=okWide_slice Try.underlying22 (hval 0 22 v0 rfl rfl)
 obtain⟨x0,a0',n0',c0',hv0,hs0⟩:=open_arg (opens_t22 (W:=W) (enc:=enc)) (fun u h1 h2=>by
  obtain⟨x,a,n,c,rfl,_⟩:=h2
  simpa [Value.cells] using h1) h0
 injection hv0 with e1 e2 e3
 subst e1 e2 e3
 clear hA0 hval0
 simp only [List.append_nil] at hW'
 obtain⟨F,hF⟩:=law_exactDawgOf x0 (str_lensD hs0)
 have hb0: ∀y∈p0,y.block<W.heap.size:=fun y hy=>hW'.lt y (by simp [hy])
 refine(ok_laws_FnExactDawgOf F (start_all W) hs0 hF).mono fun e W' ⟨K',he,hS⟩=>?_
 subst he
 have hB:=hS.below
 exact⟨_,rfl,post_of_below (pa:=(p0++[])) (pv:=[]) hW' (fun _ _ _=>trodAll_mk1 (shut_bool Try.underlying4 _))
  (fun sp hsp=>trodAll_cons_mk (WideElems.Trod_stays laid (by kernel_rfl) (of_decide_eq_true (by kernel_rfl)) h0 (fun y hy=>hB.same (hb0 y hy)) (fun y hy=>hsp y (by simp [hy]))) trodAll_mk0) (fun _ _=>rfl) (by simp) hB
  (ok_one (by kernel_rfl) rfl (okWide_bool_mk Try.underlying4 _))⟩
theorem jA:(Rows.fnExactDawgOfRow.inPlace==Try.pinned.checked.prog.inPlace 3)=true:=by kernel_rfl
theorem jB:(Rows.fnExactDawgOfRow.unfollowed==Try.pinned.checked.prog.unfollowed 3)=true:=by kernel_rfl
theorem jC:(Rows.fnExactDawgOfRow.recurses==Try.pinned.checked.prog.recurses 3)=true:=by kernel_rfl
theorem jD:(Rows.fnExactDawgOfRow.named==Try.pinned.checked.prog.varsNamed 3)=true:=by kernel_rfl
theorem jE:(Rows.fnExactDawgOfRow.wf (OpenSpec.ofChange Rows.fnExactDawgOfSpec)&&laidOutB Try.pinned.checked.prog&&mapsRowed Try.pinned.checked.prog)=true:=by kernel_rfl
set_option maxRecDepth 100000 in
theorem closed:joinedFacts Try.pinned.checked.prog 3 Try.f3 Rows.fnExactDawgOfSpec Rows.fnExactDawgOfRow=true:=by
 unfold joinedFacts
 rw [jA,jB,jC,jD,jE]
 kernel_rfl
theorem over:Rows.fnExactDawgOfRow.holds Try.pinned (OpenSpec.ofChange Rows.fnExactDawgOfSpec):=
 OpenClaim.holds_of_wide 3 Try.f3 rfl rfl rfl rfl rfl rfl rfl ⟨rfl,rfl,rfl,rfl,rfl⟩ rfl rfl rfl rfl rfl (by kernel_rfl) Try.func3 closed
  (of_decide_eq_true (by kernel_rfl)) (by unfold Func.isWrapper;first | (rw [if_pos (by decide +kernel)];kernel_rfl) | (rw [if_neg (by decide +kernel)];exact⟨rfl,rfl⟩))
  (fun os started H enc _=>lifted os started H enc)
theorem proved:Rows.FnExactDawgOfSaid:=over
end Go.Proofs.Ytpjefkdclnmlfaa.fnExactDawgOf
