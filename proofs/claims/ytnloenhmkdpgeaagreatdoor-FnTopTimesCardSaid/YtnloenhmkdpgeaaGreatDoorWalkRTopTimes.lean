/-
 Walks of the functions. Printed by gen.py.
-/
import Derived.Test.YtnloenhmkdpgeaaGreatDoorModelLTopTimes
import Derived.Test.YtnloenhmkdpgeaaGreatDoorWalkA0
import Derived.Test.YtnloenhmkdpgeaaGreatDoorWalkA4
import Derived.Test.YtnloenhmkdpgeaaGreatDoorWalkFT
set_option linter.unusedVariables false
set_option linter.unusedSectionVars false
set_option maxRecDepth 100000
namespace Go.Proofs.YtnloenhmkdpgeaaGreatDoor
set_option maxHeartbeats 4000000
open Go Go.Fk Go.RowKit Tryz
variable (F:Nat){w:World}{K:F9}{Z:List Nat}{g1 g2 g3:Nat}{A B C D G H I J O R S T:Option Addr}{a b c d f i k l m n o p q s v x y aa ab ac ad ae af ag:Nat}
variable [dr:Dr]

theorem a9Z {q0:List UInt8}{r:Bool}(hS:SH w K [] w K [])(aX:b7 tU8 K A a b q0)(hG6:a4i y6 1 c G8 w)(hD: ¬dr.D)(hm:a2y F q0=some r):
  Calls prog 8 #[V3 A a b] w (R_b w K r):=by
 rw [a2y] at hm
 refine ci func8 rfl ntmps8 (sr (lv (O6 rfl) (O7 (mv rfl (lv (q9 underlying22 rfl aX) (lv (E7 rfl rfl) (nq (R9 rfl (fun aG=>?_) (fun aG=>?_)))))))))
 ·have h8:=a1a aG hm
  refine sr (lv (r_t rfl) (nq (rr ?_)))
  cases oi h8
  exact ey results8 ⟨K,rfl,hS⟩
 have h8:=a09 aG hm
 refine j3 (qr (mv rfl ?_))
 obtain⟨d,bp,bq⟩:=ob h8
 refine lk c1G (a0V F hS.enter0 aX bp) ?_
 rintro dn dp ⟨J,O,R,S,T,U,V,W,X,Y,aa,ab,x,y,B,C,D,G,dq,rfl,br,ag,ah,ai,aj,ap,aq,ar,au,aw,ax,ay⟩
 have bs:=(hS.c0 br).t5
 refine mv rfl (lv (y3 rfl rfl) (lv (y3 rfl rfl) (lv (y3 rfl rfl) (lv (y3 rfl rfl) (al B9 bs fun aI dt bu=>?_)))))
 have bv:SH _ _ _ _ _ [s7 aI [V3 none 0 0,V3 none 0 0] 26,_,_,_,_,_]:=bu
 refine al C4 bv fun aJ du bx=>?_
 have bz:SH _ _ _ _ _ [s7 aJ [V3 none 0 0,V3 none 0 0] 30,_,_,_,_,_,_]:=bx
 refine al B1 bz fun aK dv bA=>?_
 have bB:SH _ _ _ _ _ [s7 aK [V6 0,sv [],V3 none 0 0,V6 0,V6 0,V3 none 0 0] 35,_,_,_,_,_,_,_]:=bA
 refine lw [V3 J O R,V3 S T U] B9 bB.f2 fun dw bC=>(lw [V3 V W X,V3 Y aa ab] C4 bC.f2 fun dx bD=>(lw [V6 d.2.2.1.Kind,sv d.2.2.1.Field,V3 x y B,V6 d.2.2.1.From,V6 d.2.2.1.To,V3 C D G] B1 bD.f2 fun dy ae=>(av rfl (nr (lv (j6 (ds:=[V3 J O R,V3 S T U]) B9 rfl m2 ae rfl rfl) (lv (j6 (ds:=[V3 V W X,V3 Y aa ab]) C4 rfl m1 ae rfl rfl) (lv (j6 (ds:=[V6 d.2.2.1.Kind,sv d.2.2.1.Field,V3 x y B,V6 d.2.2.1.From,V6 d.2.2.1.To,V3 C D G]) B1 rfl m0 ae rfl rfl) (mv rfl ?_))))))))
 obtain⟨dz,bE,bF⟩:=ob bq
 refine lk b6y (a0b F ae.enter0 ag ah ai aj ap aq ar au aw ax ay (hG6.keep ae) hD bE) ?_
 rintro dA dB ⟨az,aA,aB,dC,rfl,i,af⟩
 have aY:=(ae.c0 i).t9
 refine av rfl (nr (lv (j6 (ds:=[V6 d.2.2.1.Kind,sv d.2.2.1.Field,V3 x y B,V6 d.2.2.1.From,V6 d.2.2.1.To,V3 C D G]) B1 rfl m1 aY rfl rfl) (lb F4 (.agg #[V6 d.2.2.1.Kind,sv d.2.2.1.Field,V3 x y B,V6 d.2.2.1.From,V6 d.2.2.1.To,V3 C D G]) [V6 d.2.2.1.Kind,sv d.2.2.1.Field,V3 x y B,V6 d.2.2.1.From,V6 d.2.2.1.To,V3 C D G] d.2.2.1 underlying33 B1 (M4 ⟨x,y,B,C,D,G,rfl,ap,aq,(ar.mono i.le),au,aw,(ax.mono i.le)⟩) aY fun ad dD bG f aZ bH=>(lv (C3 (cs:=#[V6 10,sv [],V3 none 0 0,V6 3,V6 0,V3 ad 1 1]) a7c B1 rfl (by kernel_rfl)) (al B1 bH fun aL dE bI=>?_)))))
 have bJ:SH _ _ _ _ _ [s7 aL [V6 0,sv [],V3 none 0 0,V6 0,V6 0,V3 none 0 0] 35,_,_,_,_,_,_,_,_,_,_]:=bI
 refine ls [V6 10,sv [],V3 none 0 0,V6 3,V6 0,V3 ad 1 1] (.agg #[V6 10,sv [],V3 none 0 0,V6 3,V6 0,V3 ad 1 1]) B1 bJ fun dF ak=>(ns (o4 ?_))
 obtain⟨bK,bL,bM⟩:=ob bF
 refine l4 (IV w K [] bG [(3,pt aI),(4,pt aJ),(5,pt aK),(6,V6 d.2.2.2),(7,V3 az aA aB),(8,pt aL),(47,.bool bK)] [s7 aI [V3 J O R,V3 S T U] 26,s7 aJ [V3 V W X,V3 Y aa ab] 30,s7 aK [V6 d.2.2.1.Kind,sv d.2.2.1.Field,V3 x y B,V6 d.2.2.1.From,V6 d.2.2.1.To,V3 C D G] 35,s7 aL [V6 10,sv [],V3 none 0 0,V6 3,V6 0,V3 ad 1 1] 35]) ?_ ?_
 ·refine j5 (mv rfl (lv (j6 (ds:=[V3 J O R,V3 S T U]) B9 rfl m5 ak rfl rfl) (lv (j6 (ds:=[V3 V W X,V3 Y aa ab]) C4 rfl m4 ak rfl rfl) (lv (j6 (ds:=[V6 d.2.2.1.Kind,sv d.2.2.1.Field,V3 x y B,V6 d.2.2.1.From,V6 d.2.2.1.To,V3 C D G]) B1 rfl m3 ak rfl rfl) (mv rfl ?_)))))
  obtain⟨dG,bN,bO⟩:=ob bL
  refine lk b6A (a0c F ak.enter0 (ag.mono (i.le.trans f)) (ah.mono (i.le.trans f)) (ai.mono (i.le.trans f)) (aj.mono (i.le.trans f)) ap aq (ar.mono (i.le.trans f)) au aw (ax.mono (i.le.trans f)) ay bN) ?_
  rintro dH dI ⟨dJ,dK,dL,dM,rfl,s,bP⟩
  have ba:=(ak.c0 s).t11
  obtain⟨dN,bQ,bR⟩:=ob bO
  refine lk b4A (R1 F ba.enter0 (af.mono (f.trans s.le)) bP bQ) ?_
  rintro dO dP ⟨bS,rfl,H⟩
  have am:=(ba.c0 H).t11
  refine lv (A4 rfl) (mv rfl (bt bR (fun o aM=>?_) (fun o aM=>?_)))
  ·refine lu o (lu o (lu o (lu o (lv (J6 rfl o rfl) (mv rfl (lu rfl (lu rfl (lu rfl (lv (J6 rfl rfl rfl) ?_)))))))))
   refine i8 ?_
   cases oi aM
   exact qd ⟨bS,rfl,am.f3.f4.f5.s,(s.le.trans H.le)⟩
  refine lg o (j6 (ds:=[V3 J O R,V3 S T U]) B9 rfl m5 am rfl rfl) (lg o (j6 (ds:=[V3 V W X,V3 Y aa ab]) C4 rfl m4 am rfl rfl) ?_)
  obtain⟨dQ,bT,bU⟩:=ob aM
  refine A3 (wg rfl rfl o) rfl (A2 (vs:=[.agg #[V3 J O R,V3 S T U],.agg #[V3 V W X,V3 Y aa ab]]) a9k rfl) (J1 F am.enter0 (b7.mono (((i.le.trans f).trans s.le).trans H.le) ag) (b7.mono (((i.le.trans f).trans s.le).trans H.le) ah) (b7.mono (((i.le.trans f).trans s.le).trans H.le) ai) (b7.mono (((i.le.trans f).trans s.le).trans H.le) aj) bT) ?_
  rintro dR dS ⟨bV,rfl,aC⟩
  refine⟨_,rfl,?_⟩
  have an:=(am.c0 aC).t11
  refine lg o (A4 rfl) (lv (l9 rfl o rfl) (mv rfl (bt bU (fun I aN=>?_) (fun I aN=>?_))))
  ·refine lu I (lu I (lu I (lv (J6 rfl I rfl) (i8 ?_))))
   cases oi aN
   exact qd ⟨bV,rfl,an.f3.f4.f5.s,((s.le.trans H.le).trans aC.le)⟩
  refine lg I (j6 (ds:=[V6 10,sv [],V3 none 0 0,V6 3,V6 0,V3 ad 1 1]) B1 rfl m0 an rfl rfl) ?_
  obtain⟨dT,bW,bX⟩:=ob aN
  refine A3 (wg rfl rfl I) rfl (A2 (vs:=[.agg #[V6 10,sv [],V3 none 0 0,V6 3,V6 0,V3 ad 1 1]]) b9U rfl) ((a0J F (q0:=(q7.mk (10:Int) ([]:r4) ([]:List r4) (3:Int) (0:Int) ([d.2.2.1]:List q7)))) an.enter0 (by decide :i7 10) (by decide :([]:r4).length≤maxLen) (b7.nil _ _) (by decide :i7 3) I5 (aZ.mono ((s.le.trans H.le).trans aC.le)) (hG6.keep an) bW) ?_
  rintro dU dV ⟨bY,rfl,bb⟩
  refine⟨_,rfl,?_⟩
  have bZ:=(an.c0 bb).t11
  refine lg I (A4 rfl) (lv (l9 rfl I rfl) (i8 ?_))
  cases oi bX
  exact qd ⟨bY,rfl,bZ.f3.f4.f5.s,(((s.le.trans H.le).trans aC.le).trans bb.le)⟩
 rintro _ dW ⟨dX,rfl,q,k⟩
 refine l5 (D5 bM rfl (fun ca aO=>?_) (fun ca aO=>?_))
 ·refine sr (mv rfl (lv (j6 (ds:=[V3 J O R,V3 S T U]) B9 rfl m0 q rfl rfl) (lv (j6 (ds:=[V3 V W X,V3 Y aa ab]) C4 rfl m1 q rfl rfl) (lv (j6 (ds:=[V6 d.2.2.1.Kind,sv d.2.2.1.Field,V3 x y B,V6 d.2.2.1.From,V6 d.2.2.1.To,V3 C D G]) B1 rfl m2 q rfl rfl) (mv rfl ?_)))))
  obtain⟨dY,cb,cc⟩:=ob aO
  refine lk b6A (a0c F q.enter0 (ag.mono ((i.le.trans f).trans k)) (ah.mono ((i.le.trans f).trans k)) (ai.mono ((i.le.trans f).trans k)) (aj.mono ((i.le.trans f).trans k)) ap aq (ar.mono ((i.le.trans f).trans k)) au aw (ax.mono ((i.le.trans f).trans k)) ay cb) ?_
  rintro dZ ea ⟨eb,ec,ed,ee,rfl,bc,cd⟩
  have bd:=(q.c0 bc).t4
  obtain⟨ef,ce,cf⟩:=ob cc
  refine lk b4A (R1 F bd.enter0 (af.mono ((f.trans k).trans bc.le)) cd ce) ?_
  rintro eg eh ⟨cg,rfl,ch⟩
  have cj:=(bd.c0 ch).t4
  refine av rfl (nq (rr ?_))
  cases oi cf
  exact ey results8 ⟨cg,rfl,cj.s⟩
 refine j3 (qr (lv (j6 (ds:=[V3 J O R,V3 S T U]) B9 rfl m0 q rfl rfl) (lv (j6 (ds:=[V3 V W X,V3 Y aa ab]) C4 rfl m1 q rfl rfl) (lv (j6 (ds:=[V6 10,sv [],V3 none 0 0,V6 3,V6 0,V3 ad 1 1]) B1 rfl m3 q rfl rfl) (mv rfl ?_)))))
 obtain⟨ei,ck,cl⟩:=ob aO
 refine lk b6y ((a0b F (q2:=(q7.mk (10:Int) ([]:r4) ([]:List r4) (3:Int) (0:Int) ([d.2.2.1]:List q7)))) q.enter0 (ag.mono ((i.le.trans f).trans k)) (ah.mono ((i.le.trans f).trans k)) (ai.mono ((i.le.trans f).trans k)) (aj.mono ((i.le.trans f).trans k)) (by decide :i7 10) (by decide :([]:r4).length≤maxLen) (b7.nil _ _) (by decide :i7 3) I5 (aZ.mono k) ay (hG6.keep q) hD ck) ?_
 rintro ej ek ⟨aP,aQ,aR,aS,rfl,ao,aD⟩
 have cm:=(q.c0 ao).t5
 refine av rfl (O7 (lv (N2 rfl) (nq ?_)))
 obtain⟨cn,cp,aE⟩:=ob cl
 refine l4 (IE cn w K [] aS [(7,V3 az aA aB),(9,V3 aP aQ aR)] []) ?_ ?_
 ·refine j7 ?_
  obtain⟨el,cq,be⟩:=ob cp
  have cr:=cm.sb (sd (sd (sd (sd (sd sz)))))
  refine qw (fun (aF:Int)=>IW w K [] aS [(7,V3 az aA aB),(9,V3 aP aQ aR),(10,V6 aF)] [] (i7 aF)) cq ⟨aS,rfl,cr,kr,I5⟩ ?_
  rintro aF _ em en ct bf ⟨bg,rfl,bh,ac,eo⟩
  refine o4 (sr (mv rfl (mv rfl (lv (q9 underlying57 rfl (b7.mono (((f.trans k).trans ao.le).trans ac) af)) (lv (u7 rfl rfl) (nq (D5 ct rfl (fun cu aT=>?_) (fun cu aT=>?_))))))))
  ·refine j3 (qs (j7 (o4 ?_)))
   obtain⟨cv,cw,cx⟩:=ob aT
   refine l4 (IV w K [] bg [(7,V3 az aA aB),(9,V3 aP aQ aR),(10,V6 aF),(96,.bool cv)] []) ?_ ?_
   ·refine D4 mixed (by kernel_rfl) bh (km rfl (km rfl (kv (q9 underlying57 rfl (aD.mono ac)) (kv (a3B rfl rfl) (km rfl (bt cw (fun m aU=>?_) (fun m aU=>?_)))))))
    ·iterate 11 refine kn m ?_
     refine kv (J6 rfl m rfl) (km rfl ?_)
     iterate 12 refine qv rfl rfl rfl rfl ?_
     refine kv (J6 rfl rfl rfl) (B4 ?_)
     rintro ep ⟨cy,cz,cA⟩
     cases oi aU
     exact qd ⟨cy,rfl,cz,cA⟩
    refine kg m (i5 rfl) (kg m (i5 rfl) ?_)
    obtain⟨bi,cB,cC⟩:=ob aU
    refine C7 (t:=Q0) (wg rfl rfl m) rfl underlying57 Q2 rfl rfl (aD.mono ac) cB fun cD cE eq cF cG=>?_
    obtain⟨rfl,es,et⟩:=cF
    have cH:F1 _ cD cE [V6 bi.Doc,V6 bi.Points]:=cG
    refine kg m (c7 a4N rfl) (kgh m (C1 E6 rfl (cH 0 _ rfl)) (kg m (i5 rfl) (kg m (i5 rfl) ?_)))
    obtain⟨bj,cI,cJ⟩:=ob cC
    refine C7 (t:=Q0) (wg rfl rfl m) rfl underlying57 Q2 rfl rfl (b7.mono (((f.trans k).trans ao.le).trans ac) af) cI fun cK cL eu cM cN=>?_
    obtain⟨rfl,ev,ew⟩:=cM
    have cO:F1 _ cK cL [V6 bj.Doc,V6 bj.Points]:=cN
    refine kg m (c7 a4N rfl) (kgh m (C1 E6 rfl (cO 0 _ rfl)) (kg m (R2 rfl rfl) (kv (l9 rfl m rfl) (km rfl (bt cJ (fun l aV=>?_) (fun l aV=>?_))))))
    ·iterate 12 refine kn l ?_
     refine kv (J6 rfl l rfl) (B4 ?_)
     rintro ex ⟨cP,cQ,cR⟩
     cases oi aV
     exact qd ⟨cP,rfl,cQ,cR⟩
    refine kg l (i5 rfl) (kg l (i5 rfl) ?_)
    obtain⟨bk,cS,cT⟩:=ob aV
    refine C7 (t:=Q0) (wg rfl rfl l) rfl underlying57 Q2 rfl rfl (aD.mono ac) cS fun cU cV eA cW cX=>?_
    obtain⟨rfl,eB,eC⟩:=cW
    have cY:F1 _ cU cV [V6 bk.Doc,V6 bk.Points]:=cX
    refine kg l (c7 a4O rfl) (kgh l (C1 E6 rfl (cY 1 _ rfl)) (kg l (i5 rfl) (kg l (i5 rfl) ?_)))
    obtain⟨bl,cZ,da⟩:=ob cT
    refine C7 (t:=Q0) (wg rfl rfl l) rfl underlying57 Q2 rfl rfl (b7.mono (((f.trans k).trans ao.le).trans ac) af) cZ fun db dc eD dd de=>?_
    obtain⟨rfl,eE,eF⟩:=dd
    have df:F1 _ db dc [V6 bl.Doc,V6 bl.Points]:=de
    refine kg l (c7 a4O rfl) (kgh l (C1 E6 rfl (df 1 _ rfl)) (kg l (U4 rfl rfl) (kg l (R2 rfl rfl) (kv (l9 rfl l rfl) (B4 ?_)))))
    rintro eG ⟨dg,dh,di⟩
    cases oi da
    exact qd ⟨dg,rfl,dh,di⟩
   rintro _ eH ⟨bm,rfl,bn,dj⟩
   refine l5 (D5 cx rfl (fun dk aW=>?_) (fun dk aW=>?_))
   ·refine sr (lv (O6 rfl) (nq (j9 (i9 (c9 (c9 ?_))))))
    cases oi aW
    cases bf _ rfl
    refine i9 (c9 ?_)
    cases oi be
    refine c9 ?_
    cases oi aE
    exact ey results8 ⟨bm,rfl,bn⟩
   refine j3 (x8 (l5 (j5 (mv rfl (lv (y7 rfl rfl) (av rfl (i8 ?_)))))))
   cases oi aW
   exact qd ⟨_,rfl,bm,rfl,bn,(ac.trans dj),(u0 _)⟩
  refine y4 (g8 (g8 ?_))
  cases oi aT
  cases bf _ rfl
  refine l6 ?_
  cases oi be
  exact qd ⟨_,bg,rfl,rfl,bh,ac⟩
 rintro _ eI ⟨eJ,dl,rfl,rfl,dm,bo⟩
 have aE:=E9 aE
 refine qr (mv rfl (lv (q9 underlying57 rfl (aD.mono bo)) (mv rfl (lv (q9 underlying57 rfl (b7.mono (((f.trans k).trans ao.le).trans bo) af)) (lv (A9 rfl rfl) (av rfl (nq (j9 ?_))))))))
 cases oi aE
 exact ey results8 ⟨dl,rfl,dm⟩
end Go.Proofs.YtnloenhmkdpgeaaGreatDoor
