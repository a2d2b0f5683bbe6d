/-
 Walks of the functions. Printed by gen.py.
-/
import Derived.Test.YtpdfkjjmcnhakaaGreatDoorModelL
import Derived.Test.YtpdfkjjmcnhakaaGreatDoorWalkA0
import Derived.Test.YtpdfkjjmcnhakaaGreatDoorWalkA2
import Derived.Test.YtpdfkjjmcnhakaaGreatDoorWalkA4
import Derived.Test.YtpdfkjjmcnhakaaGreatDoorWalkA5
set_option linter.unusedVariables false
set_option linter.unusedSectionVars false
set_option maxRecDepth 100000
namespace Go.Proofs.YtpdfkjjmcnhakaaGreatDoor
set_option maxHeartbeats 4000000
open Go Go.Fk Go.RowKit Tryz
variable (F:Nat){w:World}{K:C7}{Z:List Nat}{g1 g2 g3:Nat}{A B C D G H I J O R S T:Option Addr}{a b c d f i k l m n o p q s v x y aa ab ac ad ae af ag:Nat}
variable [dr:Dr]

theorem a4Z {q0:List UInt8}{r:Bool}(hS:SH w K [] w K [])(bf:b7 tU8 K A a b q0)(hG6:a73 J3 0 c P2 w)(hD: ¬dr.D)(hm:T8 F q0=some r):
  Calls prog 4 #[V3 A a b] w (R_b w K r):=by
 rw [T8] at hm
 refine ci func4 u ntmps4 (sr (lv (M7 u) (Q9 (mv u (lv (p7 underlying50 u bf) (lv (E9 u u) (nq (a0n u (fun aL=>?_) (fun aL=>?_)))))))))
 ·have h8:=a3w aL hm
  refine sr (lv (r_t u) (nq (rr ?_)))
  cases oi h8
  exact ey results4 ⟨K,u,hS⟩
 have h8:=a3v aL hm
 refine i8 (qr (mv u ?_))
 obtain⟨y,bD,bE⟩:=ob h8
 refine lk c0e (a4n F hS.enter0 bf bD) ?_
 rintro dX dY ⟨k,l,m,o,q,s,I,J,O,R,S,T,bF,rfl,bG,ab,ac,ae,aw,aN,ax⟩
 have bH:=(hS.c0 bG).t3
 refine mv u (lv (B6 u u) (lv (B6 u u) (lv (B6 u u) (lv (B6 u u) (al E1 bH fun C dZ bI=>?_)))))
 have bJ:SH _ _ _ _ _ [r5 C [V3 none 0 0,V3 none 0 0] 38,_,_,_]:=bI
 refine al I9 bJ fun H ea bK=>?_
 have bL:SH _ _ _ _ _ [r5 H [V3 none 0 0,V3 none 0 0] 43,_,_,_,_]:=bK
 refine lw [V3 k l m,V3 o q s] E1 bL.f1 fun eb bM=>(lw [V3 I J O,V3 R S T] I9 bM.f1 fun ec ay=>(av u (av u (ns (n9 ?_)))))
 obtain⟨bN,bO,bP⟩:=ob bE
 refine j9 (IV w K [] bF [(3,pt C),(4,pt H),(5,sv y.2.2.1),(6,sv y.2.2.2),(31,.bool bN)] [r5 C [V3 k l m,V3 o q s] 38,r5 H [V3 I J O,V3 R S T] 43]) ?_ ?_
 ·refine j3 (lv (s7 (ds:=[V3 k l m,V3 o q s]) E1 u m1 ay u u) (lv (s7 (ds:=[V3 I J O,V3 R S T]) I9 u m0 ay u u) ?_))
  obtain⟨ed,bQ,bR⟩:=ob bO
  refine lk b8p (a2T F ay.enter0 ab ac ae aw bQ) ?_
  rintro ee ef ⟨bS,rfl,ai⟩
  have az:=(ay.c0 ai).t5
  refine lv (y3 u) (mv u (bt bR (fun X aO=>?_) (fun X aO=>?_)))
  ·refine lu X (lu X (lu X (lu X (lv (L1 u X u) (i5 ?_)))))
   cases oi aO
   exact qd ⟨bS,u,az.f1.s,ai.le⟩
  refine lg X (s7 (ds:=[V3 k l m,V3 o q s]) E1 u m1 az u u) (lg X (i4 u) ?_)
  obtain⟨eg,bT,bU⟩:=ob aO
  refine A7 (wg u u X) u (A6 (vs:=[.agg #[V3 k l m,V3 o q s],sv y.2.2.2]) b6Y u) (a1a F az.enter0 (ab.mono ai.le) (ac.mono ai.le) ax bT) ?_
  rintro eh ei ⟨bV,rfl,bg,ej⟩
  refine⟨_,u,?_⟩
  have bW:=(az.c0 bg).t5
  refine lg X (J4 (r:=([]:l3)) u u) (lv (m9 u X u) (i5 ?_))
  cases oi bU
  exact qd ⟨bV,u,bW.f1.s,(ai.le.trans bg.le)⟩
 rintro _ ek ⟨el,rfl,aA,f⟩
 refine l4 (D0 bP u (fun bX aP=>?_) (fun bX aP=>?_))
 ·refine n9 (D3 mixed (by kernel_rfl) aA (kh (a2i (ds:=[V3 k l m,V3 o q s]) E1 u m0 u u) (kh (a2i (ds:=[V3 I J O,V3 R S T]) I9 u m1 u u) ?_)))
  obtain⟨em,bY,bZ⟩:=ob aP
  refine kc b8p (fun _ _ ca aB=>(a2T F) ca.enter0 (ab.mono (f.trans aB)) (ac.mono (f.trans aB)) (ae.mono (f.trans aB)) (aw.mono (f.trans aB)) bY) (kh (a2i (ds:=[V3 k l m,V3 o q s]) E1 u m0 u u) (kh (a2i (ds:=[V3 I J O,V3 R S T]) I9 u m1 u u) ?_))
  obtain⟨en,cb,cc⟩:=ob bZ
  refine kc c0g (fun _ _ cd aC=>(a9r F) cd.enter0 (ab.mono (f.trans aC)) (ac.mono (f.trans aC)) (ae.mono (f.trans aC)) (aw.mono (f.trans aC)) cb) (kv (b4W underlying4 u u) (kv (r4 u) (A3 ?_)))
  rintro eo ⟨ce,cf,ep⟩
  refine l4 (rr ?_)
  cases oi cc
  exact ey results4 ⟨ce,u,cf.s⟩
 refine i8 (qr (lv (s7 (ds:=[V3 k l m,V3 o q s]) E1 u m0 aA u u) (lv (s7 (ds:=[V3 I J O,V3 R S T]) I9 u m1 aA u u) (mv u (mv u (lb B3 (sv y.2.2.2) [sv y.2.2.2] y.2.2.2 underlying22 D8 ⟨u,ax⟩ aA fun cg eq es B ch aQ=>(lv (C4 (cs:=#[V6 2,sv y.2.2.1,V3 cg 1 1,V6 0,V6 0,V3 none 0 0]) c0K a2C u (by kernel_rfl)) ?_)))))))
 obtain⟨et,cj,ck⟩:=ob aP
 refine lk c0h ((a7q F (q2:=(B5.mk (2:Int) y.2.2.1 ([y.2.2.2]:List l3) (0:Int) (0:Int) ([]:List B5)))) aQ.enter0 (ab.mono (f.trans B)) (ac.mono (f.trans B)) (ae.mono (f.trans B)) (aw.mono (f.trans B)) (by decide :j5 2) aN ch R3 R3 (b7.nil _ _) (hG6.keep aQ) hD cj) ?_
 rintro eu ev ⟨aD,aE,aF,aR,rfl,U,cl⟩
 have cm:=(aQ.c0 U).t4
 refine av u (Q9 (lv (R1 u) (nq ?_)))
 obtain⟨cn,cp,aj⟩:=ob ck
 refine j9 (IE cn w K [] aR [] []) ?_ ?_
 ·refine i7 ?_
  obtain⟨ew,cq,aS⟩:=ob cp
  have cr:=cm.sb (sd (sd (sk (sk sz))))
  refine qw (fun (ah:Int)=>IW w K [] aR [(3,pt C),(4,pt H),(5,sv y.2.2.1),(6,sv y.2.2.2),(7,V3 aD aE aF),(8,V6 ah)] [r5 C [V3 k l m,V3 o q s] 38,r5 H [V3 I J O,V3 R S T] 43] (j5 ah)) cq ⟨aR,u,cr,kr,R3⟩ ?_
  rintro ah _ ex eA ct aT ⟨aU,rfl,aV,D,eB⟩
  refine n9 (sr (mv u (fl a0q u a42 m1 aV u (lv (p7 underlying40 u (b7.mono (((f.trans B).trans U.le).trans D) ae)) (lv (o4 u u) (nq (D0 ct u (fun cu aW=>?_) (fun cu aW=>?_))))))))
  ·refine i8 (qs (i7 (n9 (b02 (fun w'=>F0 aU w'∧A4 C [V3 k l m,V3 o q s] w'∧A4 H [V3 I J O,V3 R S T] w') (fun w'=>True) 14 [] mixed ?_))))
   have d:=aV.drew
   refine a13 (i:=0) (listed':=L_ 14 0) (A4 C [V3 k l m,V3 o q s]) u (by kernel_rfl) (B0 (H4 (B0 (B0 (H4 (B0 (B0 a1e))))))) (by kernel_rfl) u (by kernel_rfl) (by kernel_rfl) u (.inl fun _ h=>h.2.1) ⟨⟨d.hasK kr,d.hasObj m0,d.hasObj m1⟩,(fun _=>trivial),by decide⟩ wn u (fun _ h=>B7 (ds:=[V3 k l m,V3 o q s]) E1 u u u h) (a13 (i:=1) (listed':=L_ 14 1) (fun _=>True) u (by kernel_rfl) (B0 (H4 (B0 (B0 (H4 (B0 (B0 a1e))))))) (by kernel_rfl) u (by kernel_rfl) (by kernel_rfl) u (.inl fun _ _=>trivial) ⟨⟨d.hasK kr,d.hasObj m0,d.hasObj m1⟩,(fun _=>trivial),by decide⟩ wn u (fun _ _=>(c7 a0q u)) ?_)
   refine a13 (i:=2) (listed':=L_ 14 2) (A4 H [V3 I J O,V3 R S T]) u (by kernel_rfl) (B0 (H4 (B0 (B0 (H4 (B0 (B0 a1e))))))) (by kernel_rfl) u (by kernel_rfl) (by kernel_rfl) u (.inl fun _ h=>h.2.2) ⟨⟨d.hasK kr,d.hasObj m0,d.hasObj m1⟩,(fun _=>trivial),by decide⟩ wn u (fun _ h=>z8 a42 u u h) (a13 (i:=3) (listed':=L_ 14 3) (fun _=>True) u (by kernel_rfl) (B0 (H4 (B0 (B0 (H4 (B0 (B0 a1e))))))) (by kernel_rfl) u (by kernel_rfl) (by kernel_rfl) u (.inl fun _ _=>trivial) ⟨⟨d.hasK kr,d.hasObj m0,d.hasObj m1⟩,(fun _=>trivial),by decide⟩ wn u (fun _ _=>(i4 u)) ?_)
   obtain⟨bh,cv,cw⟩:=ob aW
   refine b04 (t:=E5) (j:=4) (listed':=L_ 14 4) u (by kernel_rfl) (B0 (H4 (B0 (B0 (H4 (B0 (B0 a1e))))))) (by kernel_rfl) u (by kernel_rfl) (by kernel_rfl) u ⟨⟨d.hasK kr,d.hasObj m0,d.hasObj m1⟩,(fun _=>trivial),by decide⟩ wn u underlying40 C8 u u (b7.mono (((f.trans B).trans U.le).trans D) ae) cv fun cx cy eC cz cA=>?_
   obtain⟨bi,bj,bk,bl,bm,bn,rfl,cB,cC,cD⟩:=cz
   have cE:D7 _ cx cy [V6 bh.Id,V3 bi bj bk,V3 bl bm bn]:=cA
   refine a13 (i:=5) (listed':=L_ 14 5) (F0 aU) u (by kernel_rfl) (B0 (H4 (B0 (B0 (H4 (B0 (B0 a1e))))))) (by kernel_rfl) u (by kernel_rfl) (by kernel_rfl) u (.inl fun _ h=>h.1) ⟨⟨d.hasK kr,d.hasObj m0,d.hasObj m1⟩,(fun _=>trivial),by decide⟩ wn u (fun _ h=>a1T (cs:=[V6 bh.Id,V3 bi bj bk,V3 bl bm bn]) C8 u cE u h) (a13 (i:=6) (listed':=L_ 14 6) (fun _=>True) u (by kernel_rfl) (B0 (H4 (B0 (B0 (H4 (B0 (B0 a1e))))))) (by kernel_rfl) u (by kernel_rfl) (by kernel_rfl) u (.inl fun _ _=>trivial) ⟨⟨d.hasK kr,d.hasObj m0,d.hasObj m1⟩,(fun _=>trivial),by decide⟩ wn u (fun _ _=>(i4 u)) ?_)
   refine a13 (i:=8) (listed':=#[true,true,true,true,true,true,true,false,true,false,false,false,false,false]) (A4 C [V3 k l m,V3 o q s]) u (by kernel_rfl) (B0 (H4 (B0 (B0 (H4 (B0 (B0 a1e))))))) (by kernel_rfl) u (by kernel_rfl) (by kernel_rfl) u (.inl fun _ h=>h.2.1) ⟨⟨d.hasK kr,d.hasObj m0,d.hasObj m1⟩,(fun _=>trivial),by decide⟩ wn u (fun _ h=>B7 (ds:=[V3 k l m,V3 o q s]) E1 u u u h) (a13 (i:=9) (listed':=#[true,true,true,true,true,true,true,false,true,true,false,false,false,false]) (fun _=>True) u (by kernel_rfl) (B0 (H4 (B0 (B0 (H4 (B0 (B0 a1e))))))) (by kernel_rfl) u (by kernel_rfl) (by kernel_rfl) u (.inl fun _ _=>trivial) ⟨⟨d.hasK kr,d.hasObj m0,d.hasObj m1⟩,(fun _=>trivial),by decide⟩ wn u (fun _ _=>(i4 u)) (a6V (i:=7) (by kernel_rfl) u ?_))
   obtain⟨eD,cF,cG⟩:=ob cw
   refine lk b8q (a1v F d.enter0 cB cC cD aN cF) ?_
   rintro eE eF ⟨eG,rfl,x,cH⟩
   have ak:=(d.c0 x).t2
   refine i5 (a7R (listed':=L_ 14 9) u ⟨⟨ak.hasK x.le,ak.hasObj m0,ak.hasObj m1⟩,(fun _=>trivial),by decide⟩ (a6V (i:=10) (by kernel_rfl) u ?_))
   obtain⟨aX,cI,cJ⟩:=ob cG
   refine lk b6Y (a1a F ak.enter0 (b7.mono ((((f.trans B).trans U.le).trans D).trans x.le) ab) (b7.mono ((((f.trans B).trans U.le).trans D).trans x.le) ac) ax cI) ?_
   rintro eH eI ⟨eJ,rfl,G,cK⟩
   have aG:=(ak.c0 G).t2
   refine i5 (a7R (listed':=L_ 14 10) u ⟨⟨aG.hasK (x.le.trans G.le),aG.hasObj m0,aG.hasObj m1⟩,(fun _=>trivial),by decide⟩ (a6V (i:=11) (by kernel_rfl) u (lb B3 (sv aX) [sv aX] aX underlying22 D8 ⟨u,cK⟩ aG fun eK eL eM V cL am=>(i5 (a7R (listed':=L_ 14 11) u ⟨⟨am.hasK ((x.le.trans G.le).trans V),am.hasObj m1,am.hasObj m2⟩,(fun _=>trivial),by decide⟩ (a6V (i:=12) (by kernel_rfl) u ?_))))))
   obtain⟨bo,cM,cN⟩:=ob cJ
   refine lk c0i (a6G F am.enter0 (b7.mono ((((((f.trans B).trans U.le).trans D).trans x.le).trans G.le).trans V) ab) (b7.mono ((((((f.trans B).trans U.le).trans D).trans x.le).trans G.le).trans V) ac) cH cL (by decide :j5 1) hD cM) ?_
   rintro eN eO ⟨cO,rfl,Y,eP⟩
   have af:=(am.c0 Y).t3
   refine i5 (a7R (listed':=L_ 14 12) u ⟨⟨af.hasK (((x.le.trans G.le).trans V).trans Y.le),af.hasObj m1,af.hasObj m2⟩,(fun _=>trivial),by decide⟩ (a13 (i:=13) (listed':=L_ 14 13) (fun _=>True) u (by kernel_rfl) (B0 (H4 (B0 (B0 (H4 (B0 (B0 a1e))))))) (by kernel_rfl) u (by kernel_rfl) (by kernel_rfl) u (.inl fun _ _=>trivial) ⟨⟨af.hasK (((x.le.trans G.le).trans V).trans Y.le),af.hasObj m1,af.hasObj m2⟩,(fun _=>trivial),by decide⟩ wn u (fun _ _=>(r4 u)) (b03 (by kernel_rfl) (qs (n9 ?_)))))
   have an:=af.drew
   refine j_0 (fun w'=>F0 cO w'∧A4 C [V3 k l m,V3 o q s] w'∧A4 H [V3 I J O,V3 R S T] w') 15 [] mixed ⟨an.hasK kr,an.hasObj m1,an.hasObj m2⟩ (jv 0 u (i4 u) (jh 1 u (fun _ h=>B7 (ds:=[V3 k l m,V3 o q s]) E1 u u u h.2.1) (jv 2 u (c7 a0q u) (jh 3 u (fun _ h=>z8 a42 u u h.2.2) (jv 4 u (i4 u) ?_)))))
   obtain⟨bp,cP,cQ⟩:=ob cN
   refine ji 5 u underlying40 C8 (b7.mono (((((((f.trans B).trans U.le).trans D).trans x.le).trans G.le).trans V).trans Y.le) ae) cP fun cR cS eQ cT cU=>?_
   obtain⟨bq,br,bs,bu,bv,bx,rfl,cV,cW,cX⟩:=cT
   have cY:D7 _ cR cS [V6 bp.Id,V3 bq br bs,V3 bu bv bx]:=cU
   refine jh 6 u (fun _ h=>a1T (cs:=[V6 bp.Id,V3 bq br bs,V3 bu bv bx]) C8 u cY u h.1) (jv 7 u (i4 u) (jh 9 u (fun _ h=>B7 (ds:=[V3 k l m,V3 o q s]) E1 u u u h.2.1) (jv 10 u (i4 u) (j1 8 u ?_))))
   obtain⟨eR,cZ,da⟩:=ob cQ
   refine lk b8q (a1v F an.enter0 cV cW cX aN cZ) ?_
   rintro eS eT ⟨eU,rfl,W,db⟩
   have ao:=(an.c0 W).t3
   refine j_o ⟨ao.hasK W.le,ao.hasObj m1,ao.hasObj m2⟩ (j1 11 u ?_)
   obtain⟨aY,dc,dd⟩:=ob da
   refine lk b6Y (a1a F ao.enter0 (b7.mono ((((((((f.trans B).trans U.le).trans D).trans x.le).trans G.le).trans V).trans Y.le).trans W.le) ab) (b7.mono ((((((((f.trans B).trans U.le).trans D).trans x.le).trans G.le).trans V).trans Y.le).trans W.le) ac) ax dc) ?_
   rintro eV eW ⟨eX,rfl,ad,de⟩
   have aH:=(ao.c0 ad).t3
   refine j_o ⟨aH.hasK (W.le.trans ad.le),aH.hasObj m1,aH.hasObj m2⟩ (j1 12 u (lb B3 (sv aY) [sv aY] aY underlying22 D8 ⟨u,de⟩ aH fun eY eZ fb ag df ap=>(j_o ⟨ap.hasK ((W.le.trans ad.le).trans ag),ap.hasObj m2,ap.hasObj m3⟩ (j1 13 u ?_))))
   obtain⟨fc,dg,dh⟩:=ob dd
   refine lk c0j (a6K F ap.enter0 (b7.mono ((((((((((f.trans B).trans U.le).trans D).trans x.le).trans G.le).trans V).trans Y.le).trans W.le).trans ad.le).trans ag) ab) (b7.mono ((((((((((f.trans B).trans U.le).trans D).trans x.le).trans G.le).trans V).trans Y.le).trans W.le).trans ad.le).trans ag) ac) db df (by decide :j5 1) dg) ?_
   rintro fd fe ⟨aI,rfl,aq,fg⟩
   have ar:=(ap.c0 aq).t4
   refine j_o ⟨ar.hasK (((W.le.trans ad.le).trans ag).trans aq.le),ar.hasObj m2,ar.hasObj m3⟩ (jv 14 u (X9 u u) (jd (l4 (D0 dh u (fun di aZ=>?_) (fun di aZ=>?_)))))
   ·refine sr (lv (M7 u) (nq (rr (j4 (g6 (g6 ?_))))))
    cases oi aZ
    cases aT _ u
    refine j4 (g6 ?_)
    cases oi aS
    refine g6 ?_
    cases oi aj
    exact ey results4 ⟨aI,u,ar.s⟩
   refine i8 (qr (lv (M7 u) (Q9 (lv (R1 u) (nq ?_)))))
   obtain⟨dj,dk,dl⟩:=ob aZ
   refine j9 (IV w K [] aI [(3,pt C),(4,pt H),(5,sv y.2.2.1),(6,sv y.2.2.2),(7,V3 aD aE aF),(8,V6 ah),(10,.bool dj)] [r5 C [V3 k l m,V3 o q s] 38,r5 H [V3 I J O,V3 R S T] 43]) ?_ ?_
   ·refine i7 ?_
    obtain⟨fh,dm,dn⟩:=ob dk
    have dp:=ar.sb (sd (sd (sk (sk sz))))
    refine qw (fun (au:Bool×Int)=>IW w K [] aI [(3,pt C),(4,pt H),(5,sv y.2.2.1),(6,sv y.2.2.2),(7,V3 aD aE aF),(8,V6 ah),(9,sv bo),(10,.bool au.1),(11,V6 au.2)] [r5 C [V3 k l m,V3 o q s] 38,r5 H [V3 I J O,V3 R S T] 43] (j5 au.2)) dm ⟨aI,u,dp,kr,R3⟩ ?_
    rintro au _ fi fj dq dt ⟨aJ,rfl,ba,bz,fk⟩
    refine n9 (sr (mv u (mv u (lv (F6 underlying9 u) (lv (o4 u u) (nq (D0 dq u (fun du bb=>?_) (fun du bb=>?_))))))))
    ·refine i8 (qs (i7 ?_))
     obtain⟨dv,dw,dx⟩:=ob bb
     refine j9 (IV w K [] aJ [(3,pt C),(4,pt H),(5,sv y.2.2.1),(6,sv y.2.2.2),(7,V3 aD aE aF),(8,V6 ah),(9,sv bo),(10,.bool dv),(11,V6 au.2)] [r5 C [V3 k l m,V3 o q s] 38,r5 H [V3 I J O,V3 R S T] 43]) ?_ ?_
     ·refine j3 (mv u (mv u (bt dw (fun aa bc=>?_) (fun aa bc=>?_))))
      ·refine lu aa (lu aa (lu aa (lu aa (lv (L1 u aa u) (av u (i5 ?_))))))
       cases oi bc
       exact qd ⟨aJ,u,ba,kr⟩
      refine lg aa (i4 u) (lg aa (i4 u) ?_)
      obtain⟨fm,dy,dz⟩:=ob bc
      refine lg aa (I7 underlying9 u u dy) (lg aa (a8V (b:=(91:UInt8)) u u) (lv (m9 u aa u) (av u (i5 ?_))))
      cases oi dz
      exact qd ⟨aJ,u,ba,kr⟩
     rintro _ fn ⟨dA,rfl,dB,dC⟩
     refine q7 (l4 (j3 (mv u (lv (u6 u u) (av u (i5 ?_))))))
     cases oi dx
     exact qd ⟨_,u,dA,u,dB,(bz.trans dC),(s6 _)⟩
    refine p9 (c9 (c9 ?_))
    cases oi bb
    cases dt _ u
    refine j7 ?_
    cases oi dn
    exact qd ⟨aJ,u,ba,bz⟩
   rintro _ fo ⟨fp,rfl,aK,bd⟩
   refine qr (mv u (mv u (fl a0q u a42 m1 aK u (mv u ?_))))
   obtain⟨dD,dE,dF⟩:=ob dl
   refine li underlying40 C8 (b7.mono ((((((((((((f.trans B).trans U.le).trans D).trans x.le).trans G.le).trans V).trans Y.le).trans W.le).trans ad.le).trans ag).trans aq.le).trans bd) ae) dE fun dG dH fq dI dJ=>?_
   obtain⟨dK,dL,dM,dN,dO,dP,rfl,dQ,fr,fs⟩:=dI
   have dR:D7 _ dG dH [V6 dD.Id,V3 dK dL dM,V3 dN dO dP]:=dJ
   refine fa T9 u (lv (z2 G4 u aK (dR 0 _ u)) ?_)
   obtain⟨ft,dS,dT⟩:=ob dF
   refine lk c0k (b0G F aK.enter0 (b7.mono (((((((((D.trans x.le).trans G.le).trans V).trans Y.le).trans W.le).trans ad.le).trans ag).trans aq.le).trans bd) cl) dQ dS) ?_
   rintro fu fv ⟨bA,rfl,bB⟩
   have bC:=(aK.c0 bB).t2
   refine lv (a90 underlying4 u u) (nq (D0 dT u (fun dU be=>?_) (fun dU be=>?_)))
   ·refine sr (lv (M7 u) (nq (l7 (j4 (g6 (g6 ?_))))))
    cases oi be
    cases aT _ u
    refine j4 (g6 ?_)
    cases oi aS
    refine g6 ?_
    cases oi aj
    exact ey results4 ⟨bA,u,bC.s⟩
   refine i8 (q7 (l4 (j3 (mv u (lv (u6 u u) (av u (i5 ?_)))))))
   cases oi be
   exact qd ⟨_,u,bA,u,bC,((((((((((D.trans x.le).trans G.le).trans V).trans Y.le).trans W.le).trans ad.le).trans ag).trans aq.le).trans bd).trans bB.le),(s6 _)⟩
  refine p9 (c9 (c9 ?_))
  cases oi aW
  cases aT _ u
  refine j7 ?_
  cases oi aS
  exact I6 ⟨_,aU,u,u,aV.s,D⟩ trivial
 rintro _ fw ⟨fx,dV,rfl,rfl,dW,fy⟩
 have aj:=D9 aj
 refine qr (lv (r_t u) (nq (l7 ?_)))
 cases oi aj
 exact ey results4 ⟨dV,u,dW⟩
end Go.Proofs.YtpdfkjjmcnhakaaGreatDoor
