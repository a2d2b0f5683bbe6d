/-
  The contract of 'laws.FnScoreFlat', X1.
-/
import Derived.Test.YtnloenhmkdpgeaaGreatDoorJoinScoreFlatD
import Derived.Test.YtnloenhmkdpgeaaGreatDoorLawFlat
import Derived.Test.YtnloenhmkdpgeaaGreatDoorWalkRScoreFlat
namespace Go.Proofs.YtnloenhmkdpgeaaGreatDoor.fnScoreFlat
open Go.ChangeShapes Go.WideShapes Go.ChangeAt Go.RowKit Go.WideElems Go.Fk
set_option maxRecDepth 100000 in
theorem X1 (os:Os)(started:os.Started)(H:Type)(enc:TypeId×Value→H):
  ReturnsInHanded {} Tryz.checked os 10 .any (fun w args=>(Rows.fnScoreFlatSpec.pre enc Tryz.prog Tryz.f10 [] false w args∧laidMetH Tryz.prog laid w)∧sizedMet enc Tryz.prog Tryz.f10 (OpenSpec.ofChange Rows.fnScoreFlatSpec) false w args)
   (Rows.fnScoreFlatSpec.post enc Tryz.prog Tryz.f10 false true false false):=by
 refine returnsInHanded_of_change_and (C:=Tryz.checked) (X:=fun w _=>laidMetH Tryz.prog laid w) (fun _ _ _ hh h=>h.of_heap hh) own started (by kernel_rfl) Tryz.func10
  (ChangeSpec.witness_shaped (enc:=enc) (C:=Tryz.checked) (os:=os) (X:=fun w _=>laidMetH Tryz.prog laid w) false (World.doorLaid Tryz.prog 4000 os) #[.slice none 0 0,.slice none 0 0] 8 rfl (World.shaped_of_RefB (by kernel_rfl) (by kernel_rfl)) (by kernel_rfl) (by kernel_rfl) (by kernel_rfl) (W6 os _)) ?_
 intro W base args ds gs before hval0 hW _ _ hL _
 have hval: ∀(j:Nat) t v,Tryz.f10.params[j]? =some t→args[j]? =some v→Value.okWide Tryz.prog W .any base t v:=hval0
 have hW':=hW
 obtain⟨p,q,hA0,hV0,rfl,_,_⟩:=hW
 have hA:DataW.TrodAll enc Tryz.prog W 0 (fun _=>true) true Tryz.f10.params.toList args.toList ds p:=hA0
 have hV:DataW.TrodVars enc Tryz.prog W (fun _=>true) ["loop.example/fossick/impl.shapes","loop.example/fossick/impl.none"] gs q:=hV0
 rw [Tryz.params10] at hA hval
 obtain⟨v0,vs0,d0,ds0,p0,q0,hargs,rfl,rfl,h0,r0⟩:=trodAll_cons hA
 obtain⟨v1,vs1,d1,ds1,p1,q1,rfl,rfl,rfl,h1,r1⟩:=trodAll_cons r0
 obtain⟨rfl,rfl,rfl⟩:=trodAll_nil r1
 obtain rfl:args=#[v0,v1]:=by cases args;simp_all
 obtain⟨a0,n0,c0,xs0,rfl,hs0,k0⟩:=P7 Tryz.underlying22 Tryz.underlying5 a08 (hval 0 22 v0 rfl rfl) h0
 obtain⟨a1,n1,c1,xs1,rfl,hs1,k1⟩:=P7 Tryz.underlying22 Tryz.underlying5 a08 (hval 1 22 v1 rfl rfl) h1
 clear hA0 hval0
 simp only [List.append_nil] at hW'
 obtain⟨bm,hG⟩:=a0T hL
 obtain⟨_,_,_,_,y0,_,_,_,_,_,y1,_,rfl,_⟩:=trodVars_two hV
 obtain⟨F,hF⟩:=c7N xs0 xs1
 refine(c2J F (a3v W) hs0 hs1 hG id hF).mono fun e W' ⟨K',he,hS⟩=>?_
 subst he
 have hB:=hS.below
 exact⟨_,rfl,W0 (pa:=(p0++(p1++[]))) (pv:=q) hW' (fun _ _ _=>trodAll_mk1 (shut_bool Tryz.underlying4 _))
  (fun sp hsp=>trodAll_cons_mk (k0 W' hB sp fun p hp=>hsp p (by simp [hp])) (trodAll_cons_mk (k1 W' hB sp fun p hp=>hsp p (by simp [hp])) trodAll_mk0)) (fun sp hsp=>a10 a0S hB (by kernel_rfl) hV fun p hp=>hsp p (by simp [hp])) (by simp) hB
  (ok_one (by kernel_rfl) rfl (okWide_bool_mk Tryz.underlying4 _))⟩
end Go.Proofs.YtnloenhmkdpgeaaGreatDoor.fnScoreFlat
