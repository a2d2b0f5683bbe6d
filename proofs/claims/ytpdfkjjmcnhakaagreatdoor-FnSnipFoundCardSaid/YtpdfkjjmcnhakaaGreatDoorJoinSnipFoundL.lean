/-
  The contract of 'laws.FnSnipFound', b50.
-/
import Derived.Test.YtpdfkjjmcnhakaaGreatDoorJoinSnipFoundD
import Derived.Test.YtpdfkjjmcnhakaaGreatDoorLawSnipF
import Derived.Test.YtpdfkjjmcnhakaaGreatDoorWalkA6
namespace Go.Proofs.YtpdfkjjmcnhakaaGreatDoor.fnSnipFound
open Go.ChangeShapes Go.WideShapes Go.ChangeAt Go.RowKit Go.WideElems Go.Fk
set_option maxRecDepth 100000 in
theorem b50 (os:Os)(started:os.Started)(H:Type)(enc:TypeId×Value→H):
  ReturnsInHanded {} Tryz.checked os 4 .any (fun w args=>(Rows.fnSnipFoundSpec.pre enc Tryz.prog Tryz.f4 [] false w args∧laidMetH Tryz.prog laid w)∧sizedMet enc Tryz.prog Tryz.f4 (OpenSpec.ofChange Rows.fnSnipFoundSpec) false w args)
   (Rows.fnSnipFoundSpec.post enc Tryz.prog Tryz.f4 false true false false):=by
 refine returnsInHanded_of_change_and (C:=Tryz.checked) (X:=fun w _=>laidMetH Tryz.prog laid w) (fun _ _ _ hh h=>h.of_heap hh) own started (by kernel_rfl) Tryz.func4
  (ChangeSpec.witness_shaped (enc:=enc) (C:=Tryz.checked) (os:=os) (X:=fun w _=>laidMetH Tryz.prog laid w) false (World.doorLaid Tryz.prog 4000 os) #[.slice none 0 0] 8 rfl (World.shaped_of_RefB (by kernel_rfl) (by kernel_rfl)) (by kernel_rfl) (by kernel_rfl) (by kernel_rfl) (b5M os _)) ?_
 intro W base args ds gs before hval0 hW _ _ hL _
 have hval: ∀(j:Nat) t v,Tryz.f4.params[j]? =some t→args[j]? =some v→Value.okWide Tryz.prog W .any base t v:=hval0
 have hW':=hW
 obtain⟨p,q,hA0,hV0,rfl,_,_⟩:=hW
 have hA:DataW.TrodAll enc Tryz.prog W 0 (fun _=>true) true Tryz.f4.params.toList args.toList ds p:=hA0
 have hV:DataW.TrodVars enc Tryz.prog W (fun _=>true) ["loop.example/fossick/impl.shapes","loop.example/fossick/impl.none"] gs q:=hV0
 rw [Tryz.params4] at hA hval
 obtain⟨v0,vs0,d0,ds0,p0,q0,hargs,rfl,rfl,h0,r0⟩:=trodAll_cons hA
 obtain⟨rfl,rfl,rfl⟩:=trodAll_nil r0
 obtain rfl:args=#[v0]:=by cases args;simp_all
 obtain⟨a0,n0,c0,xs0,rfl,hs0,k0⟩:=b0J Tryz.underlying50 Tryz.underlying5 b8o (hval 0 50 v0 rfl rfl) h0
 clear hA0 hval0
 simp only [List.append_nil] at hW'
 obtain⟨bm,hG⟩:=b7q hL
 obtain⟨_,_,_,_,y0,_,_,_,_,_,y1,_,rfl,_⟩:=trodVars_two hV
 obtain⟨F,hF⟩:=a9n xs0
 refine(a4Z F (b49 W) hs0 hG id hF).mono fun e W' ⟨K',he,hS⟩=>?_
 subst he
 have hB:=hS.below
 exact⟨_,rfl,a9u (pa:=(p0++[])) (pv:=q) hW' (fun _ _ _=>trodAll_mk1 (shut_bool Tryz.underlying4 _))
  (fun sp hsp=>trodAll_cons_mk (k0 W' hB sp fun p hp=>hsp p (by simp [hp])) trodAll_mk0) (fun sp hsp=>b3a b7m hB (by kernel_rfl) hV fun p hp=>hsp p (by simp [hp])) (by simp) hB
  (ok_one (by kernel_rfl) rfl (okWide_bool_mk Tryz.underlying4 _))⟩
end Go.Proofs.YtpdfkjjmcnhakaaGreatDoor.fnSnipFound
