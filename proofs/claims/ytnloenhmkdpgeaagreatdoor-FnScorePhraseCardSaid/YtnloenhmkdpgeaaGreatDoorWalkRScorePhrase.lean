/-
 Walks of the functions. Printed by gen.py.
-/
import Derived.Test.YtnloenhmkdpgeaaGreatDoorModelLScorePhrase
import Derived.Test.YtnloenhmkdpgeaaGreatDoorWalkA2
import Derived.Test.YtnloenhmkdpgeaaGreatDoorWalkA4
import Derived.Test.YtnloenhmkdpgeaaGreatDoorWalkFS
set_option linter.unusedVariables false
set_option linter.unusedSectionVars false
set_option maxRecDepth 100000
namespace Go.Proofs.YtnloenhmkdpgeaaGreatDoor
set_option maxHeartbeats 4000000
open Go Go.Fk Go.RowKit Tryz
variable (F:Nat){w:World}{K:F9}{Z:List Nat}{g1 g2 g3:Nat}{A B C D G H I J O R S T:Option Addr}{a b c d f i k l m n o p q s v x y aa ab ac ad ae af ag:Nat}
variable [dr:Dr]

theorem a7V {q0:List UInt8}{q1:List UInt8}{r:Bool}(hS:SH w K [] w K [])(bv:b7 tU8 K A a b q0)(bx:b7 tU8 K B c d q1)(hG10:a4i y6 1 f G8 w)(hD: ¬dr.D)(hm:a0M F q0 q1=some r):
  Calls prog 5 #[V3 A a b,V3 B c d] w (R_b w K r):=by
 rw [a0M] at hm
 refine ci func5 rfl ntmps5 (sr (lv (O6 rfl) (ns (o4 ?_))))
 obtain⟨bT,bU,bV⟩:=ob hm
 refine l4 (IV w K [] K [(0,V3 A a b),(1,V3 B c d),(28,.bool bT)] []) ?_ ?_
 ·refine j5 (mv rfl (lv (q9 underlying22 rfl bv) (lv (E7 rfl rfl) (mv rfl (bt bU (fun ar ba=>?_) (fun ar ba=>?_))))))
  ·refine lu ar (lu ar (lu ar (lv (J6 rfl ar rfl) (i8 ?_))))
   cases oi ba
   exact qd ⟨K,rfl,hS,kr⟩
  refine lg ar (i5 rfl) (lg ar (q9 underlying22 rfl bx) (lg ar (E7 rfl rfl) (lv (l9 rfl ar rfl) (i8 ?_))))
  cases oi ba
  exact qd ⟨K,rfl,hS,kr⟩
 rintro _ ft ⟨bW,rfl,bb,bz⟩
 refine l5 (D5 bV rfl (fun bX bc=>?_) (fun bX bc=>?_))
 ·refine sr (lv (r_t rfl) (nq (rr ?_)))
  cases oi bc
  exact ey results5 ⟨bW,rfl,bb⟩
 refine j3 (qr (mv rfl ?_))
 obtain⟨l,bY,bZ⟩:=ob bc
 refine lk c2N (a0U F bb.enter0 (bv.mono bz) bY) ?_
 rintro fu fv ⟨I,J,O,R,S,T,aa,ab,ac,ad,ae,af,fw,rfl,bA,ao,ag,V,aw,aB,bd⟩
 have ca:=(bb.c0 bA).t3
 refine mv rfl (lv (y3 rfl rfl) (lv (y3 rfl rfl) (lv (y3 rfl rfl) (lv (y3 rfl rfl) (al B9 ca fun ah fx cb=>?_)))))
 have cc:SH _ _ _ _ _ [s7 ah [V3 none 0 0,V3 none 0 0] 26,_,_,_]:=cb
 refine al C4 cc fun ai fy cd=>?_
 have ce:SH _ _ _ _ _ [s7 ai [V3 none 0 0,V3 none 0 0] 30,_,_,_,_]:=cd
 refine lw [V3 I J O,V3 R S T] B9 ce.f1 fun fz cf=>(lw [V3 aa ab ac,V3 ad ae af] C4 cf.f1 fun fA bB=>(av rfl (av rfl (nr (mv rfl ?_)))))
 obtain⟨W,cg,ch⟩:=ob bZ
 refine lk c2N (a0U F bB.enter0 (bx.mono (bz.trans bA.le)) cg) ?_
 rintro fB fC ⟨cj,ck,cl,cm,cn,cp,cq,cr,ct,cu,cv,cw,cx,rfl,k,fD,fE,fF,fG,fH,be⟩
 have cy:=(bB.c0 k).t8
 refine mv rfl (lv (y3 rfl rfl) (lv (y3 rfl rfl) (lv (y3 rfl rfl) (lv (y3 rfl rfl) (al B9 cy fun cz fI cA=>?_)))))
 have cB:SH _ _ _ _ _ [s7 cz [V3 none 0 0,V3 none 0 0] 26,_,_,_,_,_,_,_,_]:=cA
 refine al C4 cB fun cC fJ cD=>?_
 have cE:SH _ _ _ _ _ [s7 cC [V3 none 0 0,V3 none 0 0] 30,_,_,_,_,_,_,_,_,_]:=cD
 refine lw [V3 cj ck cl,V3 cm cn cp] B9 cE.f1 fun fK cF=>(lw [V3 cq cr ct,V3 cu cv cw] C4 cF.f1 fun fL aM=>(av rfl (av rfl (ns (o4 ?_)))))
 obtain⟨cG,cH,cI⟩:=ob ch
 refine l4 (IV w K [] cx [(5,pt ah),(6,pt ai),(7,sv l.2.2.1),(8,sv l.2.2.2),(12,sv W.2.2.2),(68,.bool cG)] [s7 ah [V3 I J O,V3 R S T] 26,s7 ai [V3 aa ab ac,V3 ad ae af] 30]) ?_ ?_
 ·refine j5 (lv (j6 (ds:=[V3 I J O,V3 R S T]) B9 rfl m6 aM rfl rfl) (lv (j6 (ds:=[V3 aa ab ac,V3 ad ae af]) C4 rfl m5 aM rfl rfl) ?_))
  obtain⟨fM,cJ,cK⟩:=ob cH
  refine lk a9k (J1 F aM.enter0 (ao.mono k.le) (ag.mono k.le) (V.mono k.le) (aw.mono k.le) cJ) ?_
  rintro fN fO ⟨bf,rfl,aj⟩
  have az:=(aM.c0 aj).t10
  refine lv (A4 rfl) (mv rfl (bt cK (fun aA bg=>?_) (fun aA bg=>?_)))
  ·refine lu aA (lu aA (lv (J6 rfl aA rfl) (mv rfl (lu rfl (lu rfl (lu rfl (lu rfl (lv (J6 rfl rfl rfl) (mv rfl ?_)))))))))
   refine lu rfl (lu rfl (lu rfl (lu rfl (lv (J6 rfl rfl rfl) (mv rfl (lu rfl (lu rfl (lu rfl (lu rfl ?_)))))))))
   refine lv (J6 rfl rfl rfl) (i8 ?_)
   cases oi bg
   exact qd ⟨bf,rfl,az.f5.f6.s,aj.le⟩
  refine lg aA (i5 rfl) (lg aA (J8 (r:=([]:r4)) rfl rfl) (lv (l9 rfl aA rfl) (mv rfl (bt bg (fun ak bh=>?_) (fun ak bh=>?_)))))
  ·refine lu ak (lu ak (lu ak (lu ak (lv (J6 rfl ak rfl) (mv rfl (lu rfl (lu rfl (lu rfl (lu rfl ?_)))))))))
   refine lv (J6 rfl rfl rfl) (mv rfl (lu rfl (lu rfl (lu rfl (lu rfl (lv (J6 rfl rfl rfl) (i8 ?_)))))))
   cases oi bh
   exact qd ⟨bf,rfl,az.f5.f6.s,aj.le⟩
  refine lg ak (c7 a3y rfl) (lg ak (w8 a9v rfl m6 az rfl) (lg ak (q9 underlying24 rfl (ag.mono (k.le.trans aj.le))) (lg ak (E7 rfl rfl) (lv (l9 rfl ak rfl) (mv rfl (bt bh (fun am bi=>?_) (fun am bi=>?_)))))))
  ·refine lu am (lu am (lu am (lu am (lv (J6 rfl am rfl) (mv rfl (lu rfl (lu rfl (lu rfl (lu rfl ?_)))))))))
   refine lv (J6 rfl rfl rfl) (i8 ?_)
   cases oi bi
   exact qd ⟨bf,rfl,az.f5.f6.s,aj.le⟩
  refine lg am (j6 (ds:=[V3 I J O,V3 R S T]) B9 rfl m6 az rfl rfl) (lg am (i5 rfl) ?_)
  obtain⟨fP,cL,cM⟩:=ob bi
  refine A3 (wg rfl rfl am) rfl (A2 (vs:=[.agg #[V3 I J O,V3 R S T],sv l.2.2.2]) c2P rfl) (a4y F az.enter0 (ao.mono (k.le.trans aj.le)) (ag.mono (k.le.trans aj.le)) bd cL) ?_
  rintro fQ fR ⟨cN,rfl,aD,fS⟩
  refine⟨_,rfl,?_⟩
  have aN:=(az.c0 aD).t10
  refine lg am (J8 (r:=([]:r4)) rfl rfl) (lv (l9 rfl am rfl) (mv rfl (bt cM (fun an bj=>?_) (fun an bj=>?_))))
  ·refine lu an (lu an (lu an (lu an (lv (J6 rfl an rfl) (i8 ?_)))))
   cases oi bj
   exact qd ⟨cN,rfl,aN.f5.f6.s,(aj.le.trans aD.le)⟩
  refine lg an (j6 (ds:=[V3 I J O,V3 R S T]) B9 rfl m6 aN rfl rfl) (lg an (i5 rfl) ?_)
  obtain⟨fT,cO,cP⟩:=ob bj
  refine A3 (wg rfl rfl an) rfl (A2 (vs:=[.agg #[V3 I J O,V3 R S T],sv W.2.2.2]) c2P rfl) (a4y F aN.enter0 (ao.mono ((k.le.trans aj.le).trans aD.le)) (ag.mono ((k.le.trans aj.le).trans aD.le)) be cO) ?_
  rintro fU fV ⟨cQ,rfl,bC,fW⟩
  refine⟨_,rfl,?_⟩
  have cR:=(aN.c0 bC).t10
  refine lg an (J8 (r:=([]:r4)) rfl rfl) (lv (l9 rfl an rfl) (i8 ?_))
  cases oi cP
  exact qd ⟨cQ,rfl,cR.f5.f6.s,((aj.le.trans aD.le).trans bC.le)⟩
 rintro _ fX ⟨fY,rfl,bD,o⟩
 refine l5 (D5 cI rfl (fun cS bk=>?_) (fun cS bk=>?_))
 ·refine o4 (D4 mixed (by kernel_rfl) bD (kh (D8 (ds:=[V3 I J O,V3 R S T]) B9 rfl m0 rfl rfl) (kh (D8 (ds:=[V3 aa ab ac,V3 ad ae af]) C4 rfl m1 rfl rfl) ?_)))
  obtain⟨fZ,cT,cU⟩:=ob bk
  refine kc a9k (fun _ _ cV aO=>(J1 F) cV.enter0 (ao.mono ((k.le.trans o).trans aO)) (ag.mono ((k.le.trans o).trans aO)) (V.mono ((k.le.trans o).trans aO)) (aw.mono ((k.le.trans o).trans aO)) cT) (kh (D8 (ds:=[V3 I J O,V3 R S T]) B9 rfl m0 rfl rfl) (kh (D8 (ds:=[V3 aa ab ac,V3 ad ae af]) C4 rfl m1 rfl rfl) ?_))
  obtain⟨ga,cW,cX⟩:=ob cU
  refine kc c2O (fun _ _ cY aP=>(a5c F) cY.enter0 (ao.mono ((k.le.trans o).trans aP)) (ag.mono ((k.le.trans o).trans aP)) (V.mono ((k.le.trans o).trans aP)) (aw.mono ((k.le.trans o).trans aP)) cW) (kv (b1J underlying4 rfl rfl) (kv (u9 rfl) (B4 ?_)))
  rintro gb ⟨cZ,da,gc⟩
  refine l5 (rr ?_)
  cases oi cX
  exact ey results5 ⟨cZ,rfl,da.s⟩
 refine j3 (qr (mv rfl (mv rfl (J2 (t:=D9) (n:=2) (pv:=[(0,sv l.2.2.2),(1,sv W.2.2.2)]) (cs:=[sv l.2.2.2,sv W.2.2.2]) (xs:=[l.2.2.2,W.2.2.2]) wn rfl underlying23 G7 rfl rfl rfl (by kernel_rfl) rfl rfl (H5 (u:=sv l.2.2.2) (z:=l.2.2.2) ⟨rfl,bd⟩ (H5 (u:=sv W.2.2.2) (z:=W.2.2.2) ⟨rfl,be⟩ a1W)) bD fun ap gd ge G aQ db=>(av rfl (nr (mv rfl (mv rfl (lb D9 (sv l.2.2.2) [sv l.2.2.2] l.2.2.2 underlying23 G7 ⟨rfl,bd⟩ db fun aE gg gj s dc dd=>?_)))))))))
 refine lv (C3 (cs:=#[V6 2,sv l.2.2.1,V3 aE 1 1,V6 0,V6 0,V3 none 0 0]) a7c B1 rfl (by kernel_rfl)) (mv rfl (mv rfl (lb D9 (sv W.2.2.2) [sv W.2.2.2] W.2.2.2 underlying23 G7 ⟨rfl,be⟩ dd fun aF gk gl q de df=>(lv (C3 (cs:=#[V6 2,sv l.2.2.1,V3 aF 1 1,V6 0,V6 0,V3 none 0 0]) a7c B1 rfl (by kernel_rfl)) ?_))))
 refine J2 (t:=F4) (n:=2) (pv:=[(0,.agg #[V6 2,sv l.2.2.1,V3 aE 1 1,V6 0,V6 0,V3 none 0 0]),(1,.agg #[V6 2,sv l.2.2.1,V3 aF 1 1,V6 0,V6 0,V3 none 0 0])]) (cs:=[V6 2,sv l.2.2.1,V3 aE 1 1,V6 0,V6 0,V3 none 0 0,V6 2,sv l.2.2.1,V3 aF 1 1,V6 0,V6 0,V3 none 0 0]) (xs:=[(q7.mk (2:Int) l.2.2.1 ([l.2.2.2]:List r4) (0:Int) (0:Int) ([]:List q7)),(q7.mk (2:Int) l.2.2.1 ([W.2.2.2]:List r4) (0:Int) (0:Int) ([]:List q7))]) wn rfl underlying33 B1 rfl rfl rfl (by kernel_rfl) rfl rfl (H5 (u:=.agg #[V6 2,sv l.2.2.1,V3 aE 1 1,V6 0,V6 0,V3 none 0 0]) (z:=(q7.mk (2:Int) l.2.2.1 ([l.2.2.2]:List r4) (0:Int) (0:Int) ([]:List q7))) (M4 ⟨aE,1,1,none,0,0,rfl,(by decide :i7 2),aB,(dc.mono q),I5,I5,(b7.nil _ _)⟩) (H5 (u:=.agg #[V6 2,sv l.2.2.1,V3 aF 1 1,V6 0,V6 0,V3 none 0 0]) (z:=(q7.mk (2:Int) l.2.2.1 ([W.2.2.2]:List r4) (0:Int) (0:Int) ([]:List q7))) (M4 ⟨aF,1,1,none,0,0,rfl,(by decide :i7 2),aB,de,I5,I5,(b7.nil _ _)⟩) a1W)) df ?_
 intro aR gm go x dg dh
 refine lv (C3 (cs:=#[V6 7,sv [],V3 none 0 0,V6 0,V6 0,V3 aR 2 2]) a7c B1 rfl (by kernel_rfl)) (al B1 dh fun di gp dj=>?_)
 have dk:SH _ _ _ _ _ [s7 di [V6 0,sv [],V3 none 0 0,V6 0,V6 0,V3 none 0 0] 35,_,_,_,_,_,_]:=dj
 refine ls [V6 7,sv [],V3 none 0 0,V6 0,V6 0,V3 aR 2 2] (.agg #[V6 7,sv [],V3 none 0 0,V6 0,V6 0,V3 aR 2 2]) B1 dk fun gq aC=>(nr (lv (j6 (ds:=[V3 I J O,V3 R S T]) B9 rfl m5 aC rfl rfl) (lv (j6 (ds:=[V3 aa ab ac,V3 ad ae af]) C4 rfl m6 aC rfl rfl) (lv (j6 (ds:=[V6 7,sv [],V3 none 0 0,V6 0,V6 0,V3 aR 2 2]) B1 rfl m0 aC rfl rfl) ?_))))
 obtain⟨gr,dl,dm⟩:=ob bk
 refine lk b6z ((U2 F (q2:=(q7.mk (7:Int) ([]:r4) ([]:List r4) (0:Int) (0:Int) ([(q7.mk (2:Int) l.2.2.1 ([l.2.2.2]:List r4) (0:Int) (0:Int) ([]:List q7)),(q7.mk (2:Int) l.2.2.1 ([W.2.2.2]:List r4) (0:Int) (0:Int) ([]:List q7))]:List q7)))) aC.enter0 (b7.mono (((((k.le.trans o).trans G).trans s).trans q).trans x) ao) (b7.mono (((((k.le.trans o).trans G).trans s).trans q).trans x) ag) (b7.mono (((((k.le.trans o).trans G).trans s).trans q).trans x) V) (b7.mono (((((k.le.trans o).trans G).trans s).trans q).trans x) aw) (by decide :i7 7) (by decide :([]:r4).length≤maxLen) (b7.nil _ _) I5 I5 dg (hG10.keep aC) hD dl) ?_
 rintro gv gw ⟨aS,aT,aU,bl,rfl,D,dn⟩
 have bE:=(aC.c0 D).t8
 refine av rfl (nr (fl L3 rfl a1b m7 bE rfl (lv (q9 underlying27 rfl (b7.mono ((((((k.le.trans o).trans G).trans s).trans q).trans x).trans D.le) V)) ?_)))
 obtain⟨dp,dq,dt⟩:=ob dm
 refine b6h (t:=D6) wn rfl underlying46 E6 rfl rfl rfl dq ⟨rfl,I5⟩ bE fun ax cs226 gx hmx230 hrow228 du=>?_
 obtain⟨m231,hm232⟩: ∃m,m=dp.length:=⟨_,rfl⟩
 rw [←hm232] at hmx230
 rw [←hm232]
 refine av rfl (O7 (lv (N2 rfl) (nq ?_)))
 obtain⟨dv,dw,aV⟩:=ob dt
 refine l4 (IE dv w K [] bl [] []) ?_ ?_
 ·refine j7 ?_
  obtain⟨gy,dx,bF⟩:=ob dw
  have dy:=du.f8.f8.sb (sk (sk (sk (sd (sd (sd (sd (sd (sd sz)))))))))
  refine qw (fun (U:Int×(List Int)) E' w'=>∃cs250 ay,E'=[(5,pt ah),(6,pt ai),(7,sv l.2.2.1),(13,V3 ap 2 2),(15,V3 aS aT aU),(16,V3 (some ⟨ax,0,none⟩) m231 m231),(17,V6 U.1)]∧SH w K [] w' ay [s7 ah [V3 I J O,V3 R S T] 26,s7 ai [V3 aa ab ac,V3 ad ae af] 30,s7 ax cs250 3]∧M0 bl ay∧i7 U.1∧E1 true D6 ay cs250 U.2∧m231=U.2.length) dx ⟨cs226,bl,rfl,dy,kr,I5,hrow228,hm232⟩ ?_
  rintro U _ gz gA dz bG ⟨cs250,ay,rfl,bH,y,aW,hrow251,hm252⟩
  refine o4 (sr (mv rfl (lv (V2 rfl rfl) (nq (D5 dz rfl (fun dA bm=>?_) (fun dA bm=>?_))))))
  ·refine j3 (qs (j7 (sr (mv rfl (mv rfl (mv rfl (lv (C3 (cs:=#[V6 3,sv l.2.2.1,V3 ap 2 2,V6 U.1,V6 0,V3 none 0 0]) a7c B1 rfl (by kernel_rfl)) (al B1 bH fun aG gB dB=>?_))))))))
   have dC:SH _ _ _ _ _ [s7 aG [V6 0,sv [],V3 none 0 0,V6 0,V6 0,V3 none 0 0] 35,_,_,_]:=dB
   refine lw [V6 3,sv l.2.2.1,V3 ap 2 2,V6 U.1,V6 0,V3 none 0 0] B1 dC fun gC dD=>(nr (lv (N2 rfl) (nq ?_)))
   obtain⟨dE,dF,aX⟩:=ob bm
   refine l4 (fun E' w'=>∃aY cs275 aH,dE= .inl aY∧E'=[(5,pt ah),(6,pt ai),(7,sv l.2.2.1),(13,V3 ap 2 2),(15,V3 aS aT aU),(16,V3 (some ⟨ax,0,none⟩) m231 m231),(17,V6 U.1)]∧SH w K [] w' aH [s7 ah [V3 I J O,V3 R S T] 26,s7 ai [V3 aa ab ac,V3 ad ae af] 30,s7 ax cs275 3]∧M0 ay aH∧E1 true D6 aH cs275 aY∧m231=aY.length) ?_ ?_
   ·refine j7 ?_
    obtain⟨gD,dG,bI⟩:=ob dF
    refine qw (fun (au:Int×(List Int)) E' w'=>∃cs287 aI,E'=[(5,pt ah),(6,pt ai),(7,sv l.2.2.1),(13,V3 ap 2 2),(15,V3 aS aT aU),(16,V3 (some ⟨ax,0,none⟩) m231 m231),(17,V6 U.1),(18,pt aG),(19,V6 au.1)]∧SH w K [] w' aI [s7 ah [V3 I J O,V3 R S T] 26,s7 ai [V3 aa ab ac,V3 ad ae af] 30,s7 ax cs287 3,s7 aG [V6 3,sv l.2.2.1,V3 ap 2 2,V6 U.1,V6 0,V3 none 0 0] 35]∧M0 ay aI∧i7 au.1∧E1 true D6 aI cs287 au.2∧m231=au.2.length) dG ⟨cs250,ay,rfl,dD.f3.f3.f3,kr,I5,hrow251,hm252⟩ ?_
    rintro au _ gE gF dH bJ ⟨cs287,aI,rfl,aJ,C,gG,hrow288,hm289⟩
    refine o4 (sr (mv rfl (fl L3 rfl a1b m1 aJ rfl (lv (q9 underlying27 rfl (b7.mono ((((((((k.le.trans o).trans G).trans s).trans q).trans x).trans D.le).trans y).trans C) V)) (lv (u7 rfl rfl) (nq (D5 dH rfl (fun dI bn=>?_) (fun dI bn=>?_))))))))
    ·refine j3 (qs (j7 (o4 (D4 mixed (by kernel_rfl) aJ (kh (D8 (ds:=[V3 I J O,V3 R S T]) B9 rfl m0 rfl rfl) (kh (D8 (ds:=[V3 aa ab ac,V3 ad ae af]) C4 rfl m1 rfl rfl) (kh (D8 (ds:=[V6 3,sv l.2.2.1,V3 ap 2 2,V6 U.1,V6 0,V3 none 0 0]) B1 rfl m3 rfl rfl) (kv (c7 L3 rfl) (kh (z6 a1b rfl m1 rfl) ?_)))))))))
     refine km rfl ?_
     obtain⟨dJ,dK,dL⟩:=ob bn
     refine ki underlying27 E8 (b7.mono ((((((((k.le.trans o).trans G).trans s).trans q).trans x).trans D.le).trans y).trans C) V) dK fun dM dN gH dO dP=>?_
     obtain⟨dQ,dR,dS,dT,dU,dV,rfl,bK,gI,gJ⟩:=dO
     have dW:F1 _ dM dN [V6 dJ.Id,V3 dQ dR dS,V3 dT dU dV]:=dP
     refine kv (c7 P6 rfl) (kh (C1 E6 rfl (dW 0 _ rfl)) ?_)
     obtain⟨aZ,bL,dX⟩:=ob dL
     refine kd b6x (fun _ _ bM aK=>(P4 F) bM.enter0 (b7.mono (((((((((k.le.trans o).trans G).trans s).trans q).trans x).trans D.le).trans y).trans C).trans aK) ao) (b7.mono (((((((((k.le.trans o).trans G).trans s).trans q).trans x).trans D.le).trans y).trans C).trans aK) ag) (b7.mono (((((((((k.le.trans o).trans G).trans s).trans q).trans x).trans D.le).trans y).trans C).trans aK) V) (b7.mono (((((((((k.le.trans o).trans G).trans s).trans q).trans x).trans D.le).trans y).trans C).trans aK) aw) (by decide :i7 3) aB (b7.mono ((((((s.trans q).trans x).trans D.le).trans y).trans C).trans aK) aQ) aW I5 (b7.nil _ _) bK (hG10.keep bM) hD bL) ?_
     obtain⟨_,_,_,⟨_,_,_,dY⟩,_⟩:=(P4 F) aJ.enter0 (b7.mono ((((((((k.le.trans o).trans G).trans s).trans q).trans x).trans D.le).trans y).trans C) ao) (b7.mono ((((((((k.le.trans o).trans G).trans s).trans q).trans x).trans D.le).trans y).trans C) ag) (b7.mono ((((((((k.le.trans o).trans G).trans s).trans q).trans x).trans D.le).trans y).trans C) V) (b7.mono ((((((((k.le.trans o).trans G).trans s).trans q).trans x).trans D.le).trans y).trans C) aw) (by decide :i7 3) aB (b7.mono (((((s.trans q).trans x).trans D.le).trans y).trans C) aQ) aW I5 (b7.nil _ _) bK (hG10.keep aJ) hD bL []
     refine kv (u9 rfl) (B4 ?_)
     rintro gK ⟨dZ,bN,H⟩
     refine qs (o4 ?_)
     obtain⟨ea,eb,ec⟩:=ob dX
     refine l4 (IV w K [] dZ [(5,pt ah),(6,pt ai),(7,sv l.2.2.1),(13,V3 ap 2 2),(15,V3 aS aT aU),(16,V3 (some ⟨ax,0,none⟩) m231 m231),(17,V6 U.1),(18,pt aG),(19,V6 au.1),(20,V6 aZ),(156,.bool ea)] [s7 ah [V3 I J O,V3 R S T] 26,s7 ai [V3 aa ab ac,V3 ad ae af] 30,s7 ax cs287 3,s7 aG [V6 3,sv l.2.2.1,V3 ap 2 2,V6 U.1,V6 0,V3 none 0 0] 35]) ?_ ?_
     ·refine D4 mixed (by kernel_rfl) bN (km rfl (kh (D8 (ds:=[V3 I J O,V3 R S T]) B9 rfl m0 rfl rfl) (kh (D8 (ds:=[V3 aa ab ac,V3 ad ae af]) C4 rfl m1 rfl rfl) (kh (D8 (ds:=[V6 3,sv l.2.2.1,V3 ap 2 2,V6 U.1,V6 0,V3 none 0 0]) B1 rfl m3 rfl rfl) (kv (c7 L3 rfl) (kh (z6 a1b rfl m1 rfl) (km rfl ?_)))))))
      obtain⟨ed,ee,ef⟩:=ob eb
      refine ki underlying27 E8 (b7.mono (((((((((k.le.trans o).trans G).trans s).trans q).trans x).trans D.le).trans y).trans C).trans H) V) ee fun eg eh gL ei ej=>?_
      obtain⟨ek,el,em,en,eo,ep,rfl,bO,gM,gN⟩:=ei
      have eq:F1 _ eg eh [V6 ed.Id,V3 ek el em,V3 en eo ep]:=ej
      refine kv (c7 P6 rfl) (kh (C1 E6 rfl (eq 0 _ rfl)) ?_)
      obtain⟨gO,bP,es⟩:=ob ef
      refine kd c1E (fun _ _ et aL=>(a0K F) et.enter0 (b7.mono ((((((((((k.le.trans o).trans G).trans s).trans q).trans x).trans D.le).trans y).trans C).trans H).trans aL) ao) (b7.mono ((((((((((k.le.trans o).trans G).trans s).trans q).trans x).trans D.le).trans y).trans C).trans H).trans aL) ag) (b7.mono ((((((((((k.le.trans o).trans G).trans s).trans q).trans x).trans D.le).trans y).trans C).trans H).trans aL) V) (b7.mono ((((((((((k.le.trans o).trans G).trans s).trans q).trans x).trans D.le).trans y).trans C).trans H).trans aL) aw) (by decide :i7 3) aB (b7.mono (((((((s.trans q).trans x).trans D.le).trans y).trans C).trans H).trans aL) aQ) aW I5 (b7.nil _ _) bO bP) ?_
      obtain⟨_,_,_,⟨_,_,_,gP⟩,_⟩:=(a0K F) bN.enter0 (b7.mono (((((((((k.le.trans o).trans G).trans s).trans q).trans x).trans D.le).trans y).trans C).trans H) ao) (b7.mono (((((((((k.le.trans o).trans G).trans s).trans q).trans x).trans D.le).trans y).trans C).trans H) ag) (b7.mono (((((((((k.le.trans o).trans G).trans s).trans q).trans x).trans D.le).trans y).trans C).trans H) V) (b7.mono (((((((((k.le.trans o).trans G).trans s).trans q).trans x).trans D.le).trans y).trans C).trans H) aw) (by decide :i7 3) aB (b7.mono ((((((s.trans q).trans x).trans D.le).trans y).trans C).trans H) aQ) aW I5 (b7.nil _ _) bO bP []
      refine kv (R2 rfl rfl) (km rfl (bt es (fun aq bo=>?_) (fun aq bo=>?_)))
      ·iterate 6 refine kn aq ?_
       refine kv (J6 rfl aq rfl) (km rfl (qv rfl rfl rfl rfl (qv rfl rfl rfl rfl (qv rfl rfl rfl rfl ?_))))
       iterate 9 refine ku ?_
       refine qv rfl rfl rfl rfl (kv (J6 rfl rfl rfl) (B4 ?_))
       rintro gQ ⟨eu,ev,ew⟩
       cases oi bo
       exact qd ⟨eu,rfl,ev,ew⟩
      refine kg aq (i5 rfl) (kg aq (i5 rfl) (kg aq (i5 rfl) ?_))
      obtain⟨ex,bQ,eA⟩:=ob bo
      obtain⟨gR,eB,eC⟩:=E1.at (E1.mono H hrow288) bQ
      obtain⟨rfl,gS⟩:=eB
      have eD: ∀(j:Nat) (d:Value),[V6 ex][j]? =some d→cs287[au.1.toNat*D6.size+j]? =some d:=eC
      refine kg aq (J7 (t:=D6) underlying46 E6 rfl rfl hm289 bQ) (kgh aq (fun w' hw=>(a1B E6 rfl rfl (eD 0 _ rfl) (QC.hasObj hw (.tail _ (.tail _ (.head _)))))) (kg aq (u7 rfl rfl) (kv (l9 rfl aq rfl) (km rfl (bt eA (fun X bp=>?_) (fun X bp=>?_))))))
      ·refine kn X (kn X (kn X ?_))
       iterate 9 refine ku ?_
       refine kn X (kv (J6 rfl X rfl) (B4 ?_))
       rintro gT ⟨eE,eF,eG⟩
       cases oi bp
       exact qd ⟨eE,rfl,eF,eG⟩
      refine kg X (i5 rfl) (kg X (E7 rfl rfl) (kg X (i5 rfl) (bt bp (fun Y bq=>?_) (fun Y bq=>?_))))
      ·refine kg Y (i5 rfl) (kg Y (c7 L3 rfl) (kgh Y (z6 a1b rfl m1 rfl) (kg Y (i5 rfl) ?_)))
       obtain⟨eH,eI,eJ⟩:=ob bq
       refine C7 (t:=F6) (wg rfl rfl Y) rfl underlying27 E8 rfl rfl (b7.mono (((((((((k.le.trans o).trans G).trans s).trans q).trans x).trans D.le).trans y).trans C).trans H) V) eI fun eK eL gU eM eN=>?_
       obtain⟨eO,eP,eQ,eR,eS,eT,rfl,eU,gV,gW⟩:=eM
       have eV:F1 _ eK eL [V6 eH.Id,V3 eO eP eQ,V3 eR eS eT]:=eN
       refine kg Y (c7 P6 rfl) (kgh Y (C1 E6 rfl (eV 0 _ rfl)) ?_)
       obtain⟨gX,eW,eX⟩:=ob eJ
       refine kcg Y c6w (fun _ _ eY eZ=>(b0L F) eY.enter0 (b7.mono (((y.trans C).trans H).trans eZ) dn) eU eW) (kg Y (A4 rfl) (kg X (n9 rfl Y rfl) (kv (l9 rfl X rfl) (B4 ?_))))
       rintro gY ⟨fb,fc,fd⟩
       cases oi eX
       exact qd ⟨fb,rfl,fc,fd⟩
      iterate 9 refine kn Y ?_
      refine kg X (L8 rfl Y rfl) (kv (l9 rfl X rfl) (B4 ?_))
      rintro gZ ⟨fe,fg,fh⟩
      cases oi bq
      exact qd ⟨fe,rfl,fg,fh⟩
     rintro _ hb ⟨bR,rfl,bS,br⟩
     refine l5 (D5 ec rfl (fun fi bs=>?_) (fun fi bs=>?_))
     ·refine sr (lv (O6 rfl) (nq (rr (i9 (c9 (c9 ?_))))))
      cases oi bs
      cases bJ _ rfl
      refine i9 (c9 ?_)
      cases oi bI
      refine i9 (c9 (c9 ?_))
      cases oi aX
      cases bG _ rfl
      refine i9 (c9 ?_)
      cases oi bF
      refine c9 ?_
      cases oi aV
      exact ey results5 ⟨bR,rfl,bS.s⟩
     refine j3 (l5 (j5 (mv rfl (mv rfl (mv rfl ?_)))))
     obtain⟨fj,bu,fk⟩:=ob bs
     obtain⟨hc,fm,fn⟩:=E1.at (E1.mono (H.trans br) hrow288) bu
     obtain⟨rfl,hd⟩:=fm
     have he: ∀(j:Nat) (d:Value),[V6 fj][j]? =some d→cs287[au.1.toNat*D6.size+j]? =some d:=fn
     refine lv (J7 (t:=D6) underlying46 E6 rfl rfl hm289 bu) (a3b (t:=D6) (v:=V6 aZ) (e:=aZ) wn E6 rfl rfl ⟨rfl,dY⟩ bS.f2 (E1.mono (H.trans br) hrow288) bu fun cs430 hf hrow432 fo=>?_)
     have hm434:=hm289.trans (List.length_set (i:=au.1.toNat) (a:=aZ)).symm
     refine nb (l5 (j5 (mv rfl (lv (y7 rfl rfl) (av rfl (i8 ?_))))))
     cases oi fk
     exact qd ⟨_,rfl,cs430,bR,rfl,fo.f3.f1.f3.f3,((C.trans H).trans br),(u0 _),hrow432,hm434⟩
    refine y4 (g8 (g8 ?_))
    cases oi bn
    cases bJ _ rfl
    refine l6 ?_
    cases oi bI
    exact qd ⟨_,cs287,aI,rfl,rfl,aJ.s,C,hrow288,hm289⟩
   rintro _ hg ⟨aY,cs275,aH,rfl,rfl,fp,fq,hrow276,hm277⟩
   have aX:=E9 aX
   refine x8 (l5 (j5 (mv rfl (lv (y7 rfl rfl) (av rfl (i8 ?_))))))
   cases oi aX
   exact qd ⟨_,rfl,cs275,aH,rfl,fp,(y.trans fq),(u0 _),hrow276,hm277⟩
  refine y4 (g8 (g8 ?_))
  cases oi bm
  cases bG _ rfl
  refine l6 ?_
  cases oi bF
  exact L6 ⟨_,ay,rfl,rfl,bH.s,y⟩ trivial
 rintro _ hh ⟨hi,fr,rfl,rfl,fs,hj⟩
 have aV:=E9 aV
 refine qr (lv (r_t rfl) (nq (j9 ?_)))
 cases oi aV
 exact ey results5 ⟨fr,rfl,fs⟩
end Go.Proofs.YtnloenhmkdpgeaaGreatDoor
