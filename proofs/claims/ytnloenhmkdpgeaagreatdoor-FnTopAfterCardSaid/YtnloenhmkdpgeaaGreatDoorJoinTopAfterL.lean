/-
  The contract of 'laws.FnTopAfter', X1.
-/
import Derived.Test.YtnloenhmkdpgeaaGreatDoorJoinTopAfterD
import Derived.Test.YtnloenhmkdpgeaaGreatDoorLawTopB
import Derived.Test.YtnloenhmkdpgeaaGreatDoorWalkRTopAfter
namespace Go.Proofs.YtnloenhmkdpgeaaGreatDoor.fnTopAfter
open Go.ChangeShapes Go.WideShapes Go.ChangeAt Go.RowKit Go.WideElems Go.Fk
set_option maxRecDepth 100000 in
theorem X1 (os:Os)(started:os.Started)(H:Type)(enc:TypeId×Value→H):
  ReturnsInHanded {} Tryz.checked os 14 .any (fun w args=>(Rows.fnTopAfterSpec.pre enc Tryz.prog Tryz.f14 [] false w args∧laidMetH Tryz.prog laid w)∧sizedMet enc Tryz.prog Tryz.f14 (OpenSpec.ofChange Rows.fnTopAfterSpec) false w args)
   (Rows.fnTopAfterSpec.post enc Tryz.prog Tryz.f14 false true false false):=by
 refine returnsInHanded_of_change_and (C:=Tryz.checked) (X:=fun w _=>laidMetH Tryz.prog laid w) (fun _ _ _ hh h=>h.of_heap hh) own started (by kernel_rfl) Tryz.func14
  (ChangeSpec.witness_shaped (enc:=enc) (C:=Tryz.checked) (os:=os) (X:=fun w _=>laidMetH Tryz.prog laid w) false (World.doorLaid Tryz.prog 4000 os) #[.slice none 0 0] 8 rfl (World.shaped_of_RefB (by kernel_rfl) (by kernel_rfl)) (by kernel_rfl) (by kernel_rfl) (by kernel_rfl) (W6 os _)) ?_
 intro W base args ds gs before hval0 hW _ _ hL _
 have hval: ∀(j:Nat) t v,Tryz.f14.params[j]? =some t→args[j]? =some v→Value.okWide Tryz.prog W .any base t v:=hval0
 have hW':=hW
 obtain⟨p,q,hA0,hV0,rfl,_,_⟩:=hW
 have hA:DataW.TrodAll enc Tryz.prog W 0 (fun _=>true) true Tryz.f14.params.toList args.toList ds p:=hA0
 have hV:DataW.TrodVars enc Tryz.prog W (fun _=>true) ["loop.example/fossick/impl.shapes","loop.example/fossick/impl.none"] gs q:=hV0
 rw [Tryz.params14] at hA hval
 obtain⟨v0,vs0,d0,ds0,p0,q0,hargs,rfl,rfl,h0,r0⟩:=trodAll_cons hA
 obtain⟨rfl,rfl,rfl⟩:=trodAll_nil r0
 obtain rfl:args=#[v0]:=by cases args;simp_all
 obtain⟨a0,n0,c0,xs0,rfl,hs0,k0⟩:=P7 Tryz.underlying22 Tryz.underlying5 a08 (hval 0 22 v0 rfl rfl) h0
 clear hA0 hval0
 simp only [List.append_nil] at hW'
 obtain⟨bm,hG⟩:=a0T hL
 obtain⟨_,_,_,_,y0,_,_,_,_,_,y1,_,rfl,_⟩:=trodVars_two hV
 obtain⟨F,hF⟩:=c8H xs0
 refine(c3j F (a3v W) hs0 hG id hF).mono fun e W' ⟨K',he,hS⟩=>?_
 subst he
 have hB:=hS.below
 exact⟨_,rfl,W0 (pa:=(p0++[])) (pv:=q) hW' (fun _ _ _=>trodAll_mk1 (shut_bool Tryz.underlying4 _))
  (fun sp hsp=>trodAll_cons_mk (k0 W' hB sp fun p hp=>hsp p (by simp [hp])) trodAll_mk0) (fun sp hsp=>a10 a0S hB (by kernel_rfl) hV fun p hp=>hsp p (by simp [hp])) (by simp) hB
  (ok_one (by kernel_rfl) rfl (okWide_bool_mk Tryz.underlying4 _))⟩
end Go.Proofs.YtnloenhmkdpgeaaGreatDoor.fnTopAfter
