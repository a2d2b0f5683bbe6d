/-
  'FnIndexAddSaid' is proved: whatever byte slices are handed in, 'laws.FnIndexAdd' returns true, and they read as they did. No conditions.
-/
import Derived.Test.YtpjefkdclnmlfaaGreatRows
import Derived.Test.YtpjefkdclnmlfaaGreatCoreL
import Derived.Test.YtpjefkdclnmlfaaGreatLawIxAdd
import Derived.Test.YtpjefkdclnmlfaaGreatWalkA7
import Derived.JoinedOf
import Derived.JoinedAt
namespace Go.Proofs.YtpjefkdclnmlfaaGreat.fnIndexAdd
open Go.ChangeShapes Go.WideShapes Go.ChangeAt Go.RowKit Go.Fk
theorem own:ownKnob Tryz.prog.godebug=none:=by kernel_rfl
theorem cells5:Tryz.prog.cellsOf 5=1:=by kernel_rfl
set_option maxRecDepth 100000 in
theorem lifted (os:Os)(started:os.Started)(H:Type)(enc:TypeId×Value→H):
  ReturnsInHanded {} Tryz.checked os 10 .any (Rows.fnIndexAddSpec.pre6 enc Tryz.prog Tryz.f10 Rows.fnIndexAddRow.domain false) (Rows.fnIndexAddSpec.post enc Tryz.prog Tryz.f10 false true false false):=by
 refine returnsInHanded_of_change (C:=Tryz.checked) own started (by kernel_rfl) Tryz.func10
  (ChangeSpec.witness6 (enc:=enc) (C:=Tryz.checked) false ⟨#[],#[.slice none 0 0],[]⟩ 8 (by kernel_rfl) (by kernel_rfl) (by kernel_rfl) (by kernel_rfl)) ?_
 intro W base args ds gs before hval0 hW _ _
 have hval: ∀(j:Nat) t v,Tryz.f10.params[j]? =some t→args[j]? =some v→Value.okWide Tryz.prog W .any base t v:=hval0
 have hW':=hW
 obtain⟨p,q,hA0,hV,rfl,_,_⟩:=hW
 have hA:DataW.TrodAll enc Tryz.prog W 0 (fun _=>true) true Tryz.f10.params.toList args.toList ds p:=hA0
 rw [Tryz.params10] at hA hval
 obtain⟨v0,vs0,d0,ds0,p0,q0,hargs,rfl,rfl,h0,r0⟩:=trodAll_cons hA
 obtain⟨rfl,rfl,rfl⟩:=trodAll_nil r0
 obtain rfl:args=#[v0]:=by cases args;simp_all
 obtain⟨rfl,rfl⟩:=trodVars_none hV
 obtain⟨a0,n0,c0,xs0,rfl,hs0,k0⟩:=open_bytesAt Tryz.underlying69 Tryz.underlying5 cells5 (hval 0 69 v0 rfl rfl) h0
 clear hA0 hval0
 simp only [List.append_nil] at hW'
 obtain⟨F,hF⟩:=law_indexAdd xs0
 refine(ok_laws_FnIndexAdd F (start_all W) hs0 hF).mono fun e W' ⟨K',he,hS⟩=>?_
 subst he
 have hB:=hS.below
 exact⟨_,rfl,post_of_below (pa:=(p0++[])) (pv:=[]) hW' (fun _ _ _=>trodAll_mk1 (shut_bool Tryz.underlying4 _))
  (fun sp hsp=>trodAll_cons_mk (k0 W' hB sp fun p hp=>hsp p (by simp [hp])) trodAll_mk0) (fun _ _=>rfl) (by simp) hB
  (ok_one (by kernel_rfl) rfl (okWide_bool_mk Tryz.underlying4 _))⟩
theorem over:Rows.fnIndexAddRow.holds Tryz.pinned (OpenSpec.ofChange Rows.fnIndexAddSpec):=
 OpenClaim.holds_of_wide 10 Tryz.f10 rfl rfl rfl rfl rfl rfl rfl ⟨rfl,rfl,rfl,rfl,rfl⟩ rfl rfl rfl rfl rfl (by kernel_rfl) Tryz.func10 (by kernel_rfl)
  (of_decide_eq_true (by kernel_rfl)) (by unfold Func.isWrapper;first | (rw [if_pos (by decide +kernel)];kernel_rfl) | (rw [if_neg (by decide +kernel)];exact⟨rfl,rfl⟩))
  (fun os started H enc _=>lifted os started H enc)
theorem proved:Rows.FnIndexAddSaid:=over
end Go.Proofs.YtpjefkdclnmlfaaGreat.fnIndexAdd
