/-
 Walks of the functions. Printed by gen.py.
-/
import Derived.Test.YtepcfgnicnibnaaGreatDoorWalkA0
import Derived.Test.YtepcfgnicnibnaaGreatDoorWalkA2
import Derived.Test.YtepcfgnicnibnaaGreatDoorWalkA3
set_option linter.unusedVariables false
set_option linter.unusedSectionVars false
set_option maxRecDepth 100000
namespace Go.Proofs.YtepcfgnicnibnaaGreatDoor
set_option maxHeartbeats 4000000
open Go Go.Fk Go.RowKit Tryz
variable (F:Nat){w:World}{K:F0}{Z:List Nat}{g1 g2 g3:Nat}{A B C D G H I J O R S T:Option Addr}{a b c d f i k l m n o p q s v x y aa ab ac ad ae af ag:Nat}
variable [dr:Dr]

theorem a3e {q0:u5}{q1:q9}{r:(List C8)}(hS:SH w K [] w K [])(aj:b7 D8 K A a b q0.Stops)(aS:b7 L0 K B c d q0.Syns)(aT:q1.length≤maxLen)(hm:O1 F q0 q1=some r):
  Calls prog 73 #[.agg #[V3 A a b,V3 B c d],sv q1] w fun e w'=>∃a_1 n_2 c_3 K',e= .returned (V3 a_1 n_2 c_3)∧SH w K [] w' K' [tail (V3 a_1 n_2 c_3) 125 2]∧b7 P5 K' a_1 n_2 c_3 r:=by
 rw [O1] at hm
 refine ci func73 u ntmps73 (sr (bx u hS fun i dR bk=>?_))
 have bl:SH _ _ _ _ _ [u9 i [V3 A a b,V3 B c d] 26]:=bk
 refine lv (r_n u) (nr (b0 P5 underlying122 J8 bl fun k dS bm J aU az=>(av u (ns (p9 ?_)))))
 obtain⟨bn,bo,bp⟩:=ob hm
 refine l6 (IV w K [] bm [(1,sv q1),(2,pt i),(5,V3 k 0 0),(20,.bool bn)] [u9 i [V3 A a b,V3 B c d] 26,tail (V3 k 0 0) 125 2]) ?_ ?_
 ·refine j3 (lv (n8 (ds:=[V3 A a b,V3 B c d]) E2 u m1 az u u) ?_)
  obtain⟨dT,bq,br⟩:=ob bo
  refine lk c4P (a5p F az.enter0 (aj.mono J) (aS.mono J) bq) ?_
  rintro dU dV ⟨bs,rfl,aA⟩
  have aB:=(az.c0 aA).t2
  refine lv (A4 u) (mv u (bt br (fun l aC=>?_) (fun l aC=>?_)))
  ·refine lu l (lu l (lu l (lv (L8 u l u) (i8 ?_))))
   cases oi aC
   exact qd ⟨bs,u,aB.f1,aA.le⟩
  refine lg l (i5 u) ?_
  obtain⟨dW,bu,bv⟩:=ob aC
  refine A0 (wg u u l) u (z7 (vs:=[sv q1]) c1v u) (a5s F aB.enter0 aT bu) ?_
  rintro dX dY ⟨bz,rfl,aV⟩
  refine⟨_,u,?_⟩
  have bA:=(aB.c0 aV).t2
  refine lg l (A4 u) (lv (o4 u l u) (i8 ?_))
  cases oi bv
  exact qd ⟨bz,u,bA.f1,(aA.le.trans aV.le)⟩
 rintro _ dZ ⟨bB,rfl,aW,O⟩
 refine l4 (D4 bp u (fun bC aD=>?_) (fun bC aD=>?_))
 ·refine sr (mv u (av u (nq (rr ?_))))
  cases oi aD
  exact ey results73 ⟨k,0,0,bB,u,aW.s,(aU.mono O)⟩
 refine j5 (qr (b0 P5 underlying122 J8 aW fun bD ea eb Y bE aX=>(av u (P6 (mv u ?_)))))
 obtain⟨aY,bF,bG⟩:=ob aD
 refine lk c7o (b1Z F aX.enter0 aT bF) ?_
 rintro ec ed ⟨aZ,ba,bb,aE,rfl,y,ak⟩
 have bH:=(aX.c0 y).t4
 refine lv (q7 underlying127 u ak) (lv (r_m u) (nq ?_))
 obtain⟨bI,bJ,bK⟩:=ob bG
 refine l6 (fun E' w'=>∃R S T C,E'=[(2,pt i),(5,V3 k 0 0),(6,V3 R S T)]∧SH w K [] w' C [u9 i [V3 A a b,V3 B c d] 26,tail (V3 k 0 0) 125 2,tail (V3 R S T) 125 2]∧I9 aE C∧b7 P5 C R S T bI) ?_ ?_
 ·refine j7 ?_
  obtain⟨ee,bL,bM⟩:=ob bJ
  have bN:=bH.f1.f3.f3.sb (sk (sk (sk (sd sz))))
  refine qF (fun (aF:Nat) (aG:(List C8)) E' w'=>∃m o q U,E'=[(2,pt i),(5,V3 k 0 0),(6,V3 m o q),(24,V3 aZ ba bb),(25,V6 (aY.length:Int)),(26,V6 ((aF:Nat):Int))]∧SH w K [] w' U [u9 i [V3 A a b,V3 B c d] 26,tail (V3 k 0 0) 125 2,tail (V3 m o q) 125 2]∧I9 aE U∧b7 P5 U m o q aG) bL ⟨bD,0,0,aE,u,bN,kr,(bE.mono y.le)⟩ ?_ ?_
  ·rintro aF aG _ bO ef hi97 bP ⟨m,o,q,U,rfl,am,D,an⟩
   refine sr (lv (s7 u u) (ns (C2 u (b8 (by omega)) (j5 (l4 (p9 (j7 (sr ?_))))))))
   obtain⟨f,bQ,bR⟩:=ob bP
   refine li underlying127 a3Y (ak.mono D) bQ fun bS bT eg bU bV=>?_
   obtain⟨rfl,bc,bW,eh,ei⟩:=bU
   have bX:E9 _ bS bT [sv f.Text,V6 f.At,V6 f.From,V6 f.To]:=bV
   refine lv (F5 a3Y u am bX u) (al a3Y am fun aH ej bY=>?_)
   have bZ:SH _ _ _ _ _ [u9 aH [sv [],V6 0,V6 0,V6 0] 131,_,_,_]:=bY
   refine lw [sv f.Text,V6 f.At,V6 f.From,V6 f.To] a3Y bZ fun ek aI=>(nr (fl a9z u H3 m0 aI u ?_))
   obtain⟨V,ca,cb⟩:=ob bR
   refine lk c1q (a3N F aI.enter0 bc ca) ?_
   rintro el em ⟨cc,rfl,G,bd⟩
   have ao:=(aI.c0 G).t4
   refine av u (ns ?_)
   obtain⟨cd,ce,cf⟩:=ob cb
   refine l6 (IV w K [] cc [(2,pt i),(5,V3 k 0 0),(6,V3 m o q),(8,pt aH),(9,sv V),(24,V3 aZ ba bb),(25,V6 (aY.length:Int)),(26,V6 ((aF:Nat):Int)),(45,.bool cd)] [u9 i [V3 A a b,V3 B c d] 26,u9 aH [sv f.Text,V6 f.At,V6 f.From,V6 f.To] 131,tail (V3 k 0 0) 125 2,tail (V3 m o q) 125 2]) ?_ ?_
   ·refine j3 (fl a3i u T1 m1 ao u (fl a9z u H3 m0 ao u ?_))
    obtain⟨en,cg,ch⟩:=ob ce
    refine lk c1r (a0c F ao.enter0 (b7.mono (((((J.trans O).trans Y).trans y.le).trans D).trans G.le) aj) bc cg) ?_
    rintro eo ep ⟨cj,rfl,ap⟩
    have aq:=(ao.c0 ap).t4
    refine lv (A4 u) (mv u (bt ch (fun s aJ=>?_) (fun s aJ=>?_)))
    ·refine lg s (c9 a3i u) (lg s (u6 T1 u m1 aq u) (lg s (i5 u) ?_))
     obtain⟨eq,ck,cl⟩:=ob aJ
     refine A0 (wg u u s) u (z7 (vs:=[V3 A a b,sv V]) c1r u) (a0c F aq.enter0 (b7.mono ((((((J.trans O).trans Y).trans y.le).trans D).trans G.le).trans ap.le) aj) bd ck) ?_
     rintro es et ⟨cm,rfl,be⟩
     refine⟨_,u,?_⟩
     have cn:=(aq.c0 be).t4
     refine lg s (A4 u) (lv (o0 u s u) (i8 ?_))
     cases oi cl
     exact qd ⟨cm,u,cn.f3.f3.f2.f3,(ap.le.trans be.le)⟩
    iterate 5 refine lu s ?_
    refine lv (J6 u s u) (i8 ?_)
    cases oi aJ
    exact qd ⟨cj,u,aq.f3.f3.f2.f3,ap.le⟩
   rintro _ eu ⟨cp,rfl,aK,ar⟩
   refine l4 (D4 cf u (fun cq aL=>?_) (fun cq aL=>?_))
   ·refine j3 (mv u (mv u (fl b9b u E4 m1 aK u (lv (D3 (cs:=#[sv V,V6 f.At]) b9N J8 u (by kernel_rfl)) (lb P5 (.agg #[sv V,V6 f.At]) [sv V,V6 f.At] (C8.mk V f.At) underlying122 J8 ⟨u,bd,bW⟩ aK fun ev ew ex bf cr ct=>?_)))))
    obtain⟨eA,cu,cv⟩:=ob aL
    refine lp underlying122 J8 (an.mono ((G.le.trans ar).trans bf)) cr cu ct.f4 fun cw cx cy eB cz cA cB cC=>(av u (nb (qg (lv (A3 u u (B5 hi97 (b7.max ak))) (mv u (i8 ?_))))))
    cases oi cv
    exact qd ⟨cw,cx,cy,cz,u,cC.f4.f3.s,((((D.trans G.le).trans ar).trans bf).trans cA),cB⟩
   refine j5 (x9 (qg (lv (A3 u u (B5 hi97 (b7.max ak))) (mv u (i8 ?_)))))
   cases oi aL
   exact qd ⟨m,o,q,cp,u,aK.s,((D.trans G.le).trans ar),(an.mono (G.le.trans ar))⟩
  rintro aG _ bO cD ⟨m,o,q,U,rfl,am,D,an⟩
  subst cD
  refine sr (lv (s7 u u) (ns (C1 u (c6 (by omega)) (w8 (g6 (g6 (l5 ?_)))))))
  cases oi bM
  exact qd ⟨m,o,q,U,u,am,D,an⟩
 rintro _ eC ⟨R,S,T,C,rfl,cE,aM,au⟩
 refine qs (sr (lv (N4 u) (nq ?_)))
 obtain⟨cF,cG,cH⟩:=ob bK
 refine l6 (fun E' w'=>∃aa ab ac ad,E'=[(5,V3 aa ab ac)]∧SH w K [] w' ad [tail (V3 aa ab ac) 125 2]∧I9 C ad∧b7 P5 ad aa ab ac cF) ?_ ?_
 ·refine j7 ?_
  obtain⟨eD,cI,cJ⟩:=ob cG
  refine qw (fun (aw:(List C8)×Int) E' w'=>∃ae af ag ah,E'=[(2,pt i),(5,V3 ae af ag),(6,V3 R S T),(10,V6 aw.2)]∧SH w K [] w' ah [u9 i [V3 A a b,V3 B c d] 26,tail (V3 ae af ag) 125 2,tail (V3 R S T) 125 2]∧I9 C ah∧b7 P5 ah ae af ag aw.1∧i7 aw.2) cI ⟨k,0,0,C,u,cE,kr,(b7.mono (((O.trans Y).trans y.le).trans aM) aU),M1⟩ ?_
  rintro aw _ eE eF cK cL ⟨ae,af,ag,ah,rfl,ax,x,aN,cM⟩
  refine p9 (sr (mv u (mv u (lv (q7 underlying122 u (au.mono x)) (lv (s7 u u) (nq (D4 cK u (fun cN aO=>?_) (fun cN aO=>?_))))))))
  ·refine j5 (l4 (j7 (sr (lv (n8 (ds:=[V3 A a b,V3 B c d]) E2 u m0 ax u u) (mv u (mv u ?_))))))
   obtain⟨eG,cO,cP⟩:=ob aO
   refine lk c50 (b3e F ax.enter0 (b7.mono (((((J.trans O).trans Y).trans y.le).trans aM).trans x) aj) (b7.mono (((((J.trans O).trans Y).trans y.le).trans aM).trans x) aS) (au.mono x) cM cO) ?_
   rintro eH eI ⟨v221,cQ,rfl,H,hp222⟩
   have aP:=(ax.c0 H).t3
   refine av u (P6 (mv u (lv (c3K underlying188 u u hp222) (nq (D4 cP u (fun cR aQ=>?_) (fun cR aQ=>?_))))))
   ·refine sr (mv u (mv u (mv u ?_)))
    obtain⟨I,cS,cT⟩:=ob aQ
    refine li underlying122 J8 (au.mono (x.trans H.le)) cS fun cU cV eJ cW cX=>?_
    obtain⟨rfl,cY,cZ⟩:=cW
    have da:E9 _ cU cV [sv I.Text,V6 I.At]:=cX
    refine lv (F5 J8 u aP da u) (lb P5 (.agg #[sv I.Text,V6 I.At]) [sv I.Text,V6 I.At] I underlying122 J8 ⟨u,cY,cZ⟩ aP fun eK eL eM bg db dc=>?_)
    obtain⟨eN,dd,de⟩:=ob cT
    refine lp underlying122 J8 (aN.mono (H.le.trans bg)) db dd dc.f2 fun df dg dh eO di dj dk dl=>(av u (nr (mv u (lv (y4 u u) (av u (nq (w8 (g6 (l5 ?_)))))))))
    cases oi de
    exact qd ⟨_,u,df,dg,dh,di,u,dl.f3.f1.f3.s,(((x.trans H.le).trans bg).trans dj),dk,(s6 _)⟩
   refine j5 (qs ?_)
   have bh:=aP.drew
   refine wh1 (fun w'=>G8 cQ w') (fun w'=>True) 14 [] mixed (bh.hasK kr) (fun _=>trivial) (gt (i5 u) (gt (i5 u) ?_))
   obtain⟨ai,dm,dn⟩:=ob aQ
   obtain⟨dp,dq,eP,rfl,dr,dt⟩:=a8A.get hp222 dm
   obtain⟨du,dv,dw,rfl,dx,dy⟩:=dr
   have bi:E9 _ dp dq [V3 du dv dw,sv ai.To]:=dt
   refine gt (B3 u) (gt (c9 a5M u) (gh (fun _ h=>T7 H3 u (bi 1 _ u) h) (gt (i5 u) (gt (i5 u) ?_))))
   obtain⟨W,dz,dA⟩:=ob dn
   refine gi underlying122 J8 (au.mono (x.trans H.le)) dz fun dB dC eQ dD dE=>?_
   obtain⟨rfl,eR,dF⟩:=dD
   have dG:E9 _ dB dC [sv W.Text,V6 W.At]:=dE
   refine gt (c9 a3c u) (gh (fun _ h=>T7 E4 u (dG 1 _ u) h) (gt (D3 (cs:=#[sv ai.To,V6 W.At]) b9N J8 u (by kernel_rfl)) (gn (lb P5 (.agg #[sv ai.To,V6 W.At]) [sv ai.To,V6 W.At] (C8.mk ai.To W.At) underlying122 J8 ⟨u,dy,dF⟩ bh fun eS eT eU X dH bj=>(i8 (qh (bj.hasK X) (fun _=>trivial) (gn ?_)))))))
   obtain⟨eV,dI,dJ⟩:=ob dA
   refine lp underlying122 J8 (aN.mono (H.le.trans X)) dH dI bj.f2 fun dK dL dM eW dN ay dO aR=>(i8 (qh (aR.hasK (X.trans ay)) (fun _=>trivial) (gt (x8 u) (gd' (l4 (j3 (mv u (mv u (lv (B3 u) (fa a0l u ?_))))))))))
   refine lv (y7 T1 u aR ((E9.mono (X.trans ay) bi) 0 _ u)) (lv (q7 underlying23 u (dx.mono (X.trans ay))) (lv (y4 u u) (av u (nb ?_))))
   cases oi dJ
   exact qd ⟨_,u,dK,dL,dM,dN,u,aR.f3.f1.f3.s,(((x.trans H.le).trans X).trans ay),dO,(s6 _)⟩
  refine w8 (g6 (g6 ?_))
  cases oi aO
  cases cL _ u
  refine l5 ?_
  cases oi cJ
  exact qd ⟨ae,af,ag,ah,u,ax.s,x,aN⟩
 rintro _ eX ⟨aa,ab,ac,ad,rfl,dP,eY,dQ⟩
 refine qr (mv u (av u (nq (l3 ?_))))
 cases oi cH
 exact ey results73 ⟨aa,ab,ac,ad,u,dP,dQ⟩

theorem b4b {q0:u5}{q1:List y5}{r:A7}(hS:SH w K [] w K [])(bH:b7 D8 K A a b q0.Stops)(bI:b7 L0 K B c d q0.Syns)(ay:b7 F8 K C f i q1)(hm:a3A F q0 q1=some r):
  Calls prog 55 #[.agg #[V3 A a b,V3 B c d],V3 C f i] w fun e w'=>∃a_1 n_2 c_3 a_5 n_6 c_7 K',e= .returned (.agg #[V3 a_1 n_2 c_3,V3 a_5 n_6 c_7])∧SH w K [] w' K' [tail (V3 a_5 n_6 c_7) 104 3]∧b7 F8 K' a_1 n_2 c_3 r.Docs∧b7 B8 K' a_5 n_6 c_7 r.Entries:=by
 rw [a3A] at hm
 refine ci func55 rfl ntmps55 (sr (bx rfl hS fun l eA bV=>?_))
 have bW:SH _ _ _ _ _ [u9 l [V3 A a b,V3 B c d] 26]:=bV
 refine al F2 bW fun k eB bX=>?_
 have bi:SH _ _ _ _ _ [u9 k [V3 none 0 0,V3 none 0 0] 30,_]:=bX
 refine ns (p9 ?_)
 obtain⟨bY,bZ,ca⟩:=ob hm
 refine l6 (IV w K [] K [(1,V3 C f i),(2,pt l),(4,pt k),(19,.bool bY)] [u9 l [V3 A a b,V3 B c d] 26,u9 k [V3 none 0 0,V3 none 0 0] 30]) ?_ ?_
 ·refine j3 (lv (n8 (ds:=[V3 A a b,V3 B c d]) E2 rfl m1 bi rfl rfl) ?_)
  obtain⟨eC,cb,cc⟩:=ob bZ
  refine lk c4P (a5p F bi.enter0 bH bI cb) ?_
  rintro eD eE ⟨cd,rfl,aK⟩
  have bj:=(bi.c0 aK).t2
  refine lv (A4 rfl) (mv rfl (bt cc (fun o bk=>?_) (fun o bk=>?_)))
  ·refine lu o (lu o (lu o (lv (L8 rfl o rfl) (i8 ?_))))
   cases oi bk
   exact qd ⟨cd,rfl,bj.f1,aK.le⟩
  refine lg o (i5 rfl) ?_
  obtain⟨eF,ce,cf⟩:=ob bk
  refine A0 (wg rfl rfl o) rfl (z7 (vs:=[V3 C f i]) c4Q rfl) (a5r F bj.enter0 (ay.mono aK.le) ce) ?_
  rintro eG eH ⟨cg,rfl,bJ⟩
  refine⟨_,rfl,?_⟩
  have ch:=(bj.c0 bJ).t2
  refine lg o (A4 rfl) (lv (o4 rfl o rfl) (i8 ?_))
  cases oi cf
  exact qd ⟨cg,rfl,ch.f1,(aK.le.trans bJ.le)⟩
 rintro _ eI ⟨cj,rfl,bl,S⟩
 refine l4 (D4 ca rfl (fun ck bm=>?_) (fun ck bm=>?_))
 ·refine sr (lv (D3 (cs:=#[V3 none 0 0,V3 none 0 0]) c5z F2 rfl (by kernel_rfl)) (lw [V3 none 0 0,V3 none 0 0] F2 bl.f1 fun eJ bK=>(nq (rr ?_))))
  cases oi bm
  have cl:=bK.nil 104 3
  exact ez results55 F2 bK m0 ⟨none,0,0,none,0,0,cj,rfl,cl.s,(b7.nil _ _),(b7.nil _ _)⟩
 refine j5 (qr (mv rfl ?_))
 obtain⟨eK,cm,cn⟩:=ob bm
 refine lk c5N (a9T F bl.enter0 (ay.mono S) cm) ?_
 rintro eL eM ⟨bn,bo,bp,eN,rfl,U,cp⟩
 have cq:=(bl.c0 U).t3
 refine b0 B8 underlying28 H6 cq fun bq eO br V eP cr=>(lv (D3 (cs:=#[V3 bn bo bp,V3 bq 0 0]) c5z F2 rfl (by kernel_rfl)) (al F2 cr fun m eQ ct=>?_))
 have cu:SH _ _ _ _ _ [u9 m [V3 none 0 0,V3 none 0 0] 30,_,_,_,_]:=ct
 refine lw [V3 bn bo bp,V3 bq 0 0] F2 cu fun eR cv=>(P6 (mv rfl (lv (q7 underlying27 rfl (ay.mono ((S.trans U.le).trans V))) (lv (r_m rfl) (nq ?_)))))
 obtain⟨bL,cw,cx⟩:=ob cn
 refine l6 (fun E' w'=>∃X Y aa I J O lay94 aL,E'=[(4,pt k),(5,pt m)]∧SH w K [] w' aL [u9 k [V3 none 0 0,V3 none 0 0] 30,u9 m [V3 X Y aa,V3 I J O] 30,a7Y (Q0 104 174 3 I J O lay94)]∧I9 br aL∧b7 F8 aL X Y aa bL.Docs∧a65 lay94 bL.Entries) ?_ ?_
 ·refine j7 ?_
  obtain⟨eS,cy,cz⟩:=ob cw
  have cA:=c0G (TP:=174) (TI:=3) cv.f1
  have cB:=cA.f1.f4.f4.sb (sk (sk (sk (sk (sd sz)))))
  refine qF (fun (ab:Nat) (aM:A7) E' w'=>∃ac ad ae af ag ah lay112 q,E'=[(2,pt l),(4,pt k),(5,pt m),(25,V3 C f i),(26,V6 (q1.length:Int)),(27,V6 ((ab:Nat):Int))]∧SH w K [] w' q [u9 l [V3 A a b,V3 B c d] 26,u9 k [V3 none 0 0,V3 none 0 0] 30,u9 m [V3 ac ad ae,V3 af ag ah] 30,a7Y (Q0 104 174 3 af ag ah lay112)]∧I9 br q∧b7 F8 q ac ad ae aM.Docs∧a65 lay112 aM.Entries) cy ⟨bn,bo,bp,bq,0,0,[],br,rfl,cB,kr,(cp.mono V),⟨(fun _ h=>nomatch h),rfl⟩⟩ ?_ ?_
  ·rintro ab aM _ cC eT hi121 cD ⟨ac,ad,ae,af,ag,ah,lay112,q,rfl,aN,ai,bs,bu⟩
   refine sr (lv (s7 rfl rfl) (ns (C2 rfl (b8 (by omega)) (j5 (l4 (p9 (j7 (sr ?_))))))))
   obtain⟨s,cE,cF⟩:=ob cD
   refine li underlying27 F7 (b7.mono (((S.trans U.le).trans V).trans ai) ay) cE fun cG cH eU cI cJ=>?_
   obtain⟨D,G,H,az,aA,aB,rfl,cK,bv,eV⟩:=cI
   have cL:E9 _ cG cH [V6 s.Id,V3 D G H,V3 az aA aB]:=cJ
   refine lv (F5 F7 rfl aN cL rfl) (al F7 aN fun R eW cM=>?_)
   have cN:SH _ _ _ _ _ [u9 R [V6 0,V3 none 0 0,V3 none 0 0] 67,_,_,_,_]:=cM
   refine lw [V6 s.Id,V3 D G H,V3 az aA aB] F7 cN fun eX bM=>(nr (fl a0R rfl a6E m0 bM rfl (lv (q7 underlying64 rfl bv) (lv (r_m rfl) (nq ?_)))))
   obtain⟨bN,cO,cP⟩:=ob cF
   refine l6 (fun E' w'=>∃aO aP aQ aR aS aT lay162 aC,E'=[(2,pt l),(4,pt k),(5,pt m),(25,V3 C f i),(26,V6 (q1.length:Int)),(27,V6 ((ab:Nat):Int))]∧SH w K [] w' aC [u9 l [V3 A a b,V3 B c d] 26,u9 k [V3 none 0 0,V3 none 0 0] 30,u9 m [V3 aO aP aQ,V3 aR aS aT] 30,a7Y (Q0 104 174 3 aR aS aT lay162)]∧I9 q aC∧b7 F8 aC aO aP aQ bN.Docs∧a65 lay162 bN.Entries) ?_ ?_
   ·refine j7 ?_
    obtain⟨eY,cQ,cR⟩:=ob cO
    refine qF (fun (aU:Nat) (aV:A7) E' w'=>∃aj ak am an ao ap lay180 aq,E'=[(2,pt l),(4,pt k),(5,pt m),(7,pt R),(25,V3 C f i),(26,V6 (q1.length:Int)),(27,V6 ((ab:Nat):Int)),(32,V3 D G H),(33,V6 (s.Fields.length:Int)),(34,V6 ((aU:Nat):Int))]∧SH w K [] w' aq [u9 l [V3 A a b,V3 B c d] 26,u9 k [V3 none 0 0,V3 none 0 0] 30,u9 m [V3 aj ak am,V3 an ao ap] 30,a7Y (Q0 104 174 3 an ao ap lay180),u9 R [V6 s.Id,V3 D G H,V3 az aA aB] 67]∧I9 q aq∧b7 F8 aq aj ak am aV.Docs∧a65 lay180 aV.Entries) cQ ⟨ac,ad,ae,af,ag,ah,lay112,q,rfl,bM.f4.f4.f4.f4,kr,bs,bu⟩ ?_ ?_
    ·rintro aU aV _ cS eZ hi187 cT ⟨aj,ak,am,an,ao,ap,lay180,aq,rfl,aW,ar,bz,bA⟩
     refine sr (lv (s7 rfl rfl) (ns (C2 rfl (b8 (by omega)) (j5 (l4 (p9 (j7 (sr ?_))))))))
     obtain⟨au,cU,cV⟩:=ob cT
     refine li underlying64 S1 (bv.mono ar) cU fun cW cX fb cY cZ=>?_
     obtain⟨rfl,da,db⟩:=cY
     have dc:E9 _ cW cX [sv au.Name,sv au.Text]:=cZ
     refine lv (F5 S1 rfl aW dc rfl) (al S1 aW fun bB fc dd=>?_)
     have de:SH _ _ _ _ _ [u9 bB [sv [],sv []] 135,_,_,_,_,_]:=dd
     refine lw [sv au.Name,sv au.Text] S1 de fun fd aX=>(nr (lv (n8 (ds:=[V3 A a b,V3 B c d]) E2 rfl m1 aX rfl rfl) (fl a9A rfl H3 m0 aX rfl ?_)))
     obtain⟨df,dg,dh⟩:=ob cV
     refine lk c28 (a3e F aX.enter0 (b7.mono ((((S.trans U.le).trans V).trans ai).trans ar) bH) (b7.mono ((((S.trans U.le).trans V).trans ai).trans ar) bI) db dg) ?_
     rintro fe fg ⟨di,dj,dk,bC,rfl,bD,bE⟩
     have dl:=(aX.c0 bD).t7
     refine lv (q7 underlying122 rfl bE) (lv (r_m rfl) (nq ?_))
     obtain⟨bO,dm,dn⟩:=ob dh
     refine l6 (fun E' w'=>∃aY aZ ba bb bc bd lay233 aD,E'=[(2,pt l),(4,pt k),(5,pt m),(7,pt R),(25,V3 C f i),(26,V6 (q1.length:Int)),(27,V6 ((ab:Nat):Int)),(32,V3 D G H),(33,V6 (s.Fields.length:Int)),(34,V6 ((aU:Nat):Int))]∧SH w K [] w' aD [u9 l [V3 A a b,V3 B c d] 26,u9 k [V3 none 0 0,V3 none 0 0] 30,u9 m [V3 aY aZ ba,V3 bb bc bd] 30,a7Y (Q0 104 174 3 bb bc bd lay233),u9 R [V6 s.Id,V3 D G H,V3 az aA aB] 67]∧I9 bC aD∧b7 F8 aD aY aZ ba bO.Docs∧a65 lay233 bO.Entries) ?_ ?_
     ·refine j7 ?_
      obtain⟨fh,dp,dq⟩:=ob dm
      have dt:=dl.f1.f6.f6.f6.f6.f6.sb (sk (sk (sk (sk (sk (sk (sd sz)))))))
      refine qF (fun (bP:Nat) (be:A7) E' w'=>∃aE aF aG aH aI aJ lay251 aw,E'=[(2,pt l),(4,pt k),(5,pt m),(7,pt R),(9,pt bB),(25,V3 C f i),(26,V6 (q1.length:Int)),(27,V6 ((ab:Nat):Int)),(32,V3 D G H),(33,V6 (s.Fields.length:Int)),(34,V6 ((aU:Nat):Int)),(41,V3 di dj dk),(42,V6 (df.length:Int)),(43,V6 ((bP:Nat):Int))]∧SH w K [] w' aw [u9 l [V3 A a b,V3 B c d] 26,u9 k [V3 none 0 0,V3 none 0 0] 30,u9 m [V3 aE aF aG,V3 aH aI aJ] 30,a7Y (Q0 104 174 3 aH aI aJ lay251),u9 R [V6 s.Id,V3 D G H,V3 az aA aB] 67,u9 bB [sv au.Name,sv au.Text] 135]∧I9 bC aw∧b7 F8 aw aE aF aG be.Docs∧a65 lay251 be.Entries) dp ⟨aj,ak,am,an,ao,ap,lay180,bC,rfl,dt,kr,(bz.mono bD.le),bA⟩ ?_ ?_
      ·rintro bP be _ du fi hi261 dv ⟨aE,aF,aG,aH,aI,aJ,lay251,aw,rfl,bf,bg,bF,bG⟩
       refine sr (lv (s7 rfl rfl) (ns (C2 rfl (b8 (by omega)) (j5 (l4 (p9 (j7 (sr ?_))))))))
       obtain⟨ax,dw,dx⟩:=ob dv
       refine li underlying122 J8 (bE.mono bg) dw fun dy dz fj dA dB=>?_
       obtain⟨rfl,dC,dD⟩:=dA
       have dE:E9 _ dy dz [sv ax.Text,V6 ax.At]:=dB
       refine lv (F5 J8 rfl bf dE rfl) (al J8 bf fun dF fk dG=>?_)
       have dH:SH _ _ _ _ _ [u9 dF [sv [],V6 0] 125,_,_,_,_,_,_]:=dG
       refine lw [sv ax.Text,V6 ax.At] J8 dH fun fm bh=>(nq (j3 (fl a4p rfl H3 m6 bh rfl (lv (n8 (ds:=[sv ax.Text,V6 ax.At]) J8 rfl m0 bh rfl rfl) (fl S6 rfl E4 m5 bh rfl ?_)))))
       obtain⟨fn,dI,dJ⟩:=ob dx
       have bQ:=bh.f4.f4
       refine lk c5O (b1Y F bQ.e2 bF bG da dC dD cK dI) ?_
       rintro fo fp ⟨dK,dL,dM,dN,dO,dP,lay296,dQ,rfl,bR,dR,dS⟩
       have dT:=(bQ.c2 bR).t7
       refine nb (qg (lv (A3 rfl rfl (B5 hi261 (b7.max bE))) (mv rfl (i8 ?_))))
       cases oi dJ
       exact qd ⟨dK,dL,dM,dN,dO,dP,lay296,dQ,rfl,dT.f6.f6.f3.f3.f6.f6.s,(bg.trans bR.le),dR,dS⟩
      rintro be _ du dU ⟨aE,aF,aG,aH,aI,aJ,lay251,aw,rfl,bf,bg,bF,bG⟩
      subst dU
      refine sr (lv (s7 rfl rfl) (ns (C1 rfl (c6 (by omega)) (w8 (g6 (g6 (l5 ?_)))))))
      cases oi dq
      exact qd ⟨aE,aF,aG,aH,aI,aJ,lay251,aw,rfl,bf.s,bg,bF,bG⟩
     rintro _ fq ⟨aY,aZ,ba,bb,bc,bd,lay233,aD,rfl,dV,dW,dX,dY⟩
     refine x9 (qg (lv (A3 rfl rfl (B5 hi187 (b7.max bv))) (mv rfl (i8 ?_))))
     cases oi dn
     exact qd ⟨aY,aZ,ba,bb,bc,bd,lay233,aD,rfl,dV,((ar.trans bD.le).trans dW),dX,dY⟩
    rintro aV _ cS dZ ⟨aj,ak,am,an,ao,ap,lay180,aq,rfl,aW,ar,bz,bA⟩
    subst dZ
    refine sr (lv (s7 rfl rfl) (ns (C1 rfl (c6 (by omega)) (w8 (g6 (g6 (l5 ?_)))))))
    cases oi cR
    exact qd ⟨aj,ak,am,an,ao,ap,lay180,aq,rfl,aW.s,ar,bz,bA⟩
   rintro _ fr ⟨aO,aP,aQ,aR,aS,aT,lay162,aC,rfl,ea,eb,ec,ed⟩
   refine x9 (qg (lv (A3 rfl rfl (B5 hi121 (b7.max (ay.mono ((S.trans U.le).trans V))))) (mv rfl (i8 ?_))))
   cases oi cP
   exact qd ⟨aO,aP,aQ,aR,aS,aT,lay162,aC,rfl,ea,(ai.trans eb),ec,ed⟩
  rintro aM _ cC ee ⟨ac,ad,ae,af,ag,ah,lay112,q,rfl,aN,ai,bs,bu⟩
  subst ee
  refine sr (lv (s7 rfl rfl) (ns (C1 rfl (c6 (by omega)) (w8 (g6 (g6 (l5 ?_)))))))
  cases oi cz
  exact qd ⟨ac,ad,ae,af,ag,ah,lay112,q,rfl,aN.s,ai,bs,bu⟩
 rintro _ fs ⟨X,Y,aa,I,J,O,lay94,aL,rfl,bS,ft,ef,eg⟩
 refine qr (fl L4 rfl a0Y m1 bS rfl ?_)
 obtain⟨fu,cs315,eh,hrow317,hm318,ei⟩:=c3P bS.f2 eg
 obtain⟨fv,ej,ek⟩:=ob cx
 refine A0 wn rfl (z7 (vs:=[V3 I J O,.func (.func 116) #[] #[]]) c5P rfl) (c0I (T:=B8) sortLay115 b7s rfl (fun w=>Go.Fk.a48 H6 w) (fun w=>Go.Fk.P3 H6 w) (fun a b=>T2 F a b) 116 (Go.Proofs.enters_of func116 (by kernel_rfl) rfl) ei hrow317 hm318 (fun K1 W v x u y r hW h1 h2 hm=>by
  obtain⟨fx,fy,fz,rfl,en,eo,ep⟩:=h1
  obtain⟨fA,fB,fC,rfl,eq,es,et⟩:=h2
  exact(b1X (dr:=⟨True⟩) F (SH.start (dr:=⟨True⟩) hW) en eo ep eq es et hm).mono fun e w' ⟨K',he,hS',_⟩=>⟨K',he,hS'⟩) ej) ?_
 rintro fD fE ⟨cs335,rfl,bT,hrow337,hm338⟩
 refine⟨_,rfl,?_⟩
 refine nr (lv (n8 (ds:=[V3 X Y aa,V3 I J O]) F2 rfl m2 bT rfl rfl) (lw [V3 X Y aa,V3 I J O] F2 bT.f1 fun fF eu=>(nq (l3 ?_))))
 obtain⟨ev,ew,ex,bU⟩:=SH.freezeI eu.f1 hrow337 hm338
 cases oi ek
 exact ez results55 F2 bU m1 ⟨X,Y,aa,I,J,O,ev,rfl,bU.s,(ef.mono (eh.trans ew)),ex⟩

theorem a1u {q0:List B1}{q1:List B1}{r:Bool}(hS:SH w K [] w K [])(l:b7 B8 K A a b q0)(O:b7 B8 K B c d q1)(hm:G1 F q0 q1=some r):
  Calls prog 54 #[V3 A a b,V3 B c d,.func (.func 56) #[] #[]] w (R_b w K r):=by
 rw [G1] at hm
 refine ci func54 u ntmps54 (sr (lv (P2 u) (P6 (mv u (lv (q7 underlying28 u l) (mv u (lv (q7 underlying28 u O) (lv (S7 u u) (nq ?_)))))))))
 refine P1 u (fun H=>?_) (fun H=>?_)
 ·have I:=Z8 H hm
  refine sr (lv (P2 u) (nq (rr ?_)))
  cases oi I
  exact ey results54 ⟨K,u,hS⟩
 have I:=Z7 H hm
 refine j5 (qs (sr (mv u (lv (q7 underlying28 u l) (lv (r_m u) (nq ?_))))))
 obtain⟨aa,ab,m⟩:=ob I
 refine l6 (IE aa w K [] K [] []) ?_ ?_
 ·refine j7 ?_
  obtain⟨aQ,ac,R⟩:=ob ab
  refine qf (fun (S:Nat) (T:Unit)=>IV w K [] K [(1,V3 B c d),(2,.func (.func 56) #[] #[]),(15,V3 A a b),(16,V6 (q0.length:Int)),(17,V6 ((S:Nat):Int))] []) ac ⟨K,u,hS,kr⟩ ?_ ?_
  ·rintro S T _ ad aR hi29 ae af ⟨U,rfl,o,k⟩
   refine sr (lv (s7 u u) (ns (C2 u (b8 (by omega)) (j5 (l4 (p9 (j7 (sr (mv u ?_)))))))))
   obtain⟨f,ag,ah⟩:=ob ae
   refine li underlying28 H6 (l.mono k) ag fun ai aj aS ak am=>?_
   obtain⟨q,s,x,rfl,an,ao,ap⟩:=ak
   have aq:E9 _ ai aj [sv f.Field,sv f.Term,V3 q s x]:=am
   refine lv (F5 H6 u o aq u) (al H6 o fun ar aT au=>?_)
   have aw:SH _ _ _ _ _ [u9 ar [sv [],sv [],V3 none 0 0] 104]:=au
   refine av u (lw [sv f.Field,sv f.Term,V3 q s x] H6 aw fun aU V=>(nr (mv u (mv u ?_))))
   obtain⟨i,ax,ay⟩:=ob ah
   refine li underlying28 H6 (O.mono k) ax fun az aA aV aB aC=>?_
   obtain⟨y,C,D,rfl,aD,aE,aF⟩:=aB
   have aG:E9 _ az aA [sv i.Field,sv i.Term,V3 y C D]:=aC
   refine lv (F5 H6 u V aG u) (al H6 V fun aH aW aI=>?_)
   have aJ:SH _ _ _ _ _ [u9 aH [sv [],sv [],V3 none 0 0] 104,_]:=aI
   refine lw [sv i.Field,sv i.Term,V3 y C D] H6 aJ fun aX G=>(nr (mv u (lv (n8 (ds:=[sv f.Field,sv f.Term,V3 q s x]) H6 u m1 G u u) (lv (n8 (ds:=[sv i.Field,sv i.Term,V3 y C D]) H6 u m0 G u u) ?_))))
   obtain⟨aY,aK,aL⟩:=ob ay
   refine A0 wn u (b3D (vs:=[.agg #[sv f.Field,sv f.Term,V3 q s x],.agg #[sv i.Field,sv i.Term,V3 y C D]]) (cap:=#[]) c7i u u) (a9U F G.enter0 an ao ap aD aE aF aK) ?_
   rintro aZ ba ⟨W,rfl,X⟩
   refine⟨_,u,?_⟩
   have Y:=(G.c0 X).t2
   refine lv (A4 u) (nq (D4 aL u (fun aM J=>?_) (fun aM J=>?_)))
   ·refine sr (lv (P2 u) (nq (l3 (j6 (g8 (g8 ?_))))))
    cases oi J
    cases af _ u
    refine j6 (g8 ?_)
    cases oi R
    refine g8 ?_
    cases oi m
    exact ey results54 ⟨W,u,Y.s⟩
   refine j5 (x9 (qg (lv (A3 u u (B5 hi29 (b7.max l))) (mv u (i8 ?_)))))
   cases oi J
   exact qd ⟨_,u,W,u,Y.s,(k.trans X.le)⟩
  rintro T _ ad aN ⟨U,rfl,o,k⟩
  subst aN
  refine sr (lv (s7 u u) (ns (C1 u (c6 (by omega)) (w8 (g6 (g6 (l5 ?_)))))))
  cases oi R
  exact H9 ⟨_,U,u,u,o,k⟩ trivial
 rintro _ bb ⟨bc,aO,rfl,rfl,aP,bd⟩
 have m:=F6 m
 refine qr (lv (r_t u) (nq (l3 ?_)))
 cases oi m
 exact ey results54 ⟨aO,u,aP⟩

theorem a2Z {q0:u5}{q1:A7}{r:Bool}(hS:SH w K [] w K [])(T:b7 D8 K A a b q0.Stops)(U:b7 L0 K B c d q0.Syns)(V:b7 F8 K C f i q1.Docs)(ab:b7 B8 K D k l q1.Entries)(hm:V8 F q0 q1=some r):
  Calls prog 12 #[.agg #[V3 A a b,V3 B c d],.agg #[V3 C f i,V3 D k l]] w (R_b w K r):=by
 rw [V8] at hm
 refine ci func12 u ntmps12 (sr (bx u hS fun s az ac=>?_))
 have ad:SH _ _ _ _ _ [u9 s [V3 A a b,V3 B c d] 26]:=ac
 refine bx u ad fun x aA ae=>?_
 have O:SH _ _ _ _ _ [u9 x [V3 C f i,V3 D k l] 30,_]:=ae
 refine lv (P2 u) (ns (p9 ?_))
 obtain⟨af,ag,ah⟩:=ob hm
 refine l6 (IV w K [] K [(2,pt s),(3,pt x),(13,.bool af)] [u9 s [V3 A a b,V3 B c d] 26,u9 x [V3 C f i,V3 D k l] 30]) ?_ ?_
 ·refine j3 (lv (n8 (ds:=[V3 A a b,V3 B c d]) E2 u m1 O u u) ?_)
  obtain⟨aB,ai,aj⟩:=ob ag
  refine lk c4P (a5p F O.enter0 T U ai) ?_
  rintro aC aD ⟨ak,rfl,y⟩
  have G:=(O.c0 y).t2
  refine lv (A4 u) (mv u (bt aj (fun m R=>?_) (fun m R=>?_)))
  ·refine lu m (lu m (lu m (lu m (lv (L8 u m u) (i8 ?_)))))
   cases oi R
   exact qd ⟨ak,u,G.f1,y.le⟩
  refine lg m (c9 S5 u) (lg m (u6 a4l u m0 G u) ?_)
  obtain⟨aE,al,am⟩:=ob R
  refine A0 (wg u u m) u (z7 (vs:=[V3 C f i]) c4Q u) (a5r F G.enter0 (V.mono y.le) al) ?_
  rintro aF aG ⟨an,rfl,W⟩
  refine⟨_,u,?_⟩
  have ao:=(G.c0 W).t2
  refine lg m (A4 u) (lv (o4 u m u) (i8 ?_))
  cases oi am
  exact qd ⟨an,u,ao.f1,(y.le.trans W.le)⟩
 rintro _ aH ⟨X,rfl,Y,H⟩
 refine l4 (D4 ah u (fun ap S=>?_) (fun ap S=>?_))
 ·refine sr (lv (P2 u) (nq (rr ?_)))
  cases oi S
  exact ey results12 ⟨X,u,Y.s⟩
 refine j5 (qs ?_)
 have o:=Y.drew
 refine j_0 (fun w'=>G8 X w'∧A9 s [V3 A a b,V3 B c d] w'∧A9 x [V3 C f i,V3 D k l] w') 9 [] mixed ⟨o.hasK kr,o.hasObj m0,o.hasObj m1⟩ (jh 0 u (fun _ h=>B4 (ds:=[V3 A a b,V3 B c d]) E2 u u u h.2.1) (jv 1 u (c9 S5 u) (jh 2 u (fun _ h=>A8 a4l u u h.2.2) (jv 5 u (c9 L4 u) (jh 6 u (fun _ h=>A8 a0Y u u h.2.2) (j1 3 u ?_))))))
 obtain⟨aI,aq,ar⟩:=ob S
 refine lk c7h (b4b F o.enter0 (T.mono H) (U.mono H) (V.mono H) aq) ?_
 rintro aJ aK ⟨aL,aM,aN,aO,aP,aQ,aR,rfl,I,aS,au⟩
 have q:=(o.c0 I).t3
 refine R7 ⟨q.hasK I.le,q.hasObj m1,q.hasObj m2⟩ (jv 4 u (c2q c4V a0Y u (.inl ⟨u,u⟩)) (j1 7 u ?_))
 obtain⟨aT,aw,ax⟩:=ob ar
 refine lk c7g (a1u F q.enter0 au (ab.mono (H.trans I.le)) aw) ?_
 rintro aU aV ⟨ay,rfl,aa⟩
 have J:=(q.c0 aa).t3
 refine R7 ⟨J.hasK (I.le.trans aa.le),J.hasObj m1,J.hasObj m2⟩ (jv 8 u (x8 u) (jd (l4 (l3 ?_))))
 cases oi ax
 exact ey results12 ⟨ay,u,J.s⟩

theorem b3a {q0:u5}{q1:q9}{r:q9}(hS:SH w K [] w K [])(C:b7 D8 K A a b q0.Stops)(D:b7 L0 K B c d q0.Syns)(o:q1.length≤maxLen)(hm:a2K F q0 q1=some r):
  Calls prog 26 #[.agg #[V3 A a b,V3 B c d],sv q1] w fun e w'=>∃K',e= .returned (sv r)∧SH w K [] w' K' []∧r.length≤maxLen:=by
 rw [a2K] at hm
 refine ci func26 u ntmps26 (sr (bx u hS fun G af H=>?_))
 have q:SH _ _ _ _ _ [u9 G [V3 A a b,V3 B c d] 26]:=H
 refine lv (r_s u) (P6 (mv u ?_))
 obtain⟨ag,I,J⟩:=ob hm
 refine lk a9w (I1 F q.enter0 o I) ?_
 rintro ah ai ⟨O,rfl,i⟩
 have f:=(q.c0 i).t1
 refine lv (A4 u) (nq (D4 J u (fun R k=>?_) (fun R k=>?_)))
 ·refine sr (lv (r_s u) (nq (rr ?_)))
  cases oi k
  exact ey results26 ⟨O,u,f.s,(by decide :([]:q9).length≤maxLen)⟩
 refine j5 (qr (lv (n8 (ds:=[V3 A a b,V3 B c d]) E2 u m0 f u u) (mv u ?_)))
 obtain⟨aj,S,T⟩:=ob k
 refine lk c28 (a3e F f.enter0 (C.mono i.le) (D.mono i.le) o S) ?_
 rintro ak al ⟨am,an,ao,s,rfl,U,x⟩
 have l:=(f.c0 U).t2
 refine av u (P6 (mv u (lv (q7 underlying122 u x) (lv (A6 u u) (nq (D4 T u (fun V m=>?_) (fun V m=>?_)))))))
 ·refine sr (lv (r_s u) (nq (rr ?_)))
  cases oi m
  exact ey results26 ⟨s,u,l.s,(by decide :([]:q9).length≤maxLen)⟩
 refine j5 (qr (mv u ?_))
 obtain⟨y,W,X⟩:=ob m
 refine li underlying122 J8 x W fun Y aa ap ab ac=>?_
 obtain⟨rfl,ad,aq⟩:=ab
 have ae:E9 _ Y aa [sv y.Text,V6 y.At]:=ac
 refine fa a3b u (lv (y7 H3 u l (ae 0 _ u)) (av u (nq (l3 ?_))))
 cases oi X
 exact ey results26 ⟨s,u,l.s,ad⟩

theorem a1S {q0:Int}{q1:Int}{q2:Int}{q3:Int}{q4:Int}{r:a6m×Bool}(hS:SH w K [] w K [])(R:i7 q0)(S:i7 q1)(ad:i7 q2)(T:i7 q3)(ae:i7 q4)(hm:a0F F q0 q1 q2 q3 q4=some r):
  Calls prog 238 #[V6 q0,V6 q1,V6 q2,V6 q3,V6 q4] w fun e w'=>∃K',e= .returned (.tuple #[.agg #[V6 r.1.Up,V6 r.1.Down],.bool r.2])∧SH w K [] w' K' []∧i7 r.1.Up∧i7 r.1.Down:=by
 rw [a0F] at hm
 refine ci func238 u ntmps238 (sr (al Q1 hS fun i w7 af=>?_))
 have U:SH _ _ _ _ _ [u9 i [V6 0,V6 0] 238]:=af
 refine lv (P2 u) (ns (p9 ?_))
 obtain⟨ag,ah,ai⟩:=ob hm
 refine l6 (IV w K [] K [(0,V6 q0),(1,V6 q1),(2,V6 q2),(3,V6 q3),(4,V6 q4),(10,pt i),(38,.bool ag)] [u9 i [V6 0,V6 0] 238]) ?_ ?_
 ·refine j3 (mv u ?_)
  obtain⟨aZ,aj,ak⟩:=ob ah
  refine lk a3H (C3 F U.enter0 R (by decide :i7 1) (by decide :i7 80) aj) ?_
  rintro ba bb ⟨am,rfl,k⟩
  have q:=(U.c0 k).t1
  refine lv (A4 u) (mv u (bt ak (fun a s=>?_) (fun a s=>?_)))
  ·refine lu a (lu a (lu a (lu a (lv (L8 u a u) (mv u (lu u (lu u (lu u (lv (L8 u u u) ?_)))))))))
   refine mv u (lu u (lu u (lu u (lu u (lv (L8 u u u) (mv u (lu u (lu u (lu u ?_)))))))))
   refine lu u (lv (L8 u u u) (i8 ?_))
   cases oi s
   exact qd ⟨am,u,q,k.le⟩
  refine lg a (i5 u) (lg a (i5 u) ?_)
  obtain⟨bc,an,ao⟩:=ob s
  refine A0 (wg u u a) u (z7 (vs:=[V6 q1,V6 q0,V6 80]) a3H u) (C3 F q.enter0 S R (by decide :i7 80) an) ?_
  rintro bd be ⟨ap,rfl,l⟩
  refine⟨_,u,?_⟩
  have x:=(q.c0 l).t1
  refine lg a (A4 u) (lv (o4 u a u) (mv u (bt ao (fun f y=>?_) (fun f y=>?_))))
  ·refine lu f (lu f (lu f (lv (L8 u f u) (mv u (lu u (lu u (lu u (lu u (lv (L8 u u u) ?_)))))))))
   refine mv u (lu u (lu u (lu u (lu u (lv (L8 u u u) (i8 ?_))))))
   cases oi y
   exact qd ⟨ap,u,x,(k.le.trans l.le)⟩
  refine lg f (i5 u) ?_
  obtain⟨bf,aq,ar⟩:=ob y
  refine A0 (wg u u f) u (z7 (vs:=[V6 q3,V6 1,V6 16]) a3H u) (C3 F x.enter0 T (by decide :i7 1) (by decide :i7 16) aq) ?_
  rintro bg bh ⟨au,rfl,m⟩
  refine⟨_,u,?_⟩
  have A:=(x.c0 m).t1
  refine lg f (A4 u) (lv (o4 u f u) (mv u (bt ar (fun b B=>?_) (fun b B=>?_))))
  ·refine lu b (lu b (lu b (lu b (lv (L8 u b u) (mv u (lu u (lu u (lu u (lu u ?_)))))))))
   refine lv (L8 u u u) (i8 ?_)
   cases oi B
   exact qd ⟨au,u,A,((k.le.trans l.le).trans m.le)⟩
  refine lg b (i5 u) (lg b (i5 u) ?_)
  obtain⟨bi,aw,ax⟩:=ob B
  refine A0 (wg u u b) u (z7 (vs:=[V6 q4,V6 1,V6 q3]) a3H u) (C3 F A.enter0 ae (by decide :i7 1) T aw) ?_
  rintro bj bk ⟨ay,rfl,C⟩
  refine⟨_,u,?_⟩
  have D:=(A.c0 C).t1
  refine lg b (A4 u) (lv (o4 u b u) (mv u (bt ax (fun d G=>?_) (fun d G=>?_))))
  ·refine lu d (lu d (lu d (lu d (lv (L8 u d u) (i8 ?_)))))
   cases oi G
   exact qd ⟨ay,u,D,(((k.le.trans l.le).trans m.le).trans C.le)⟩
  refine lg d (i5 u) (lg d (i5 u) ?_)
  obtain⟨bl,az,aA⟩:=ob G
  refine A0 (wg u u d) u (z7 (vs:=[V6 q2,V6 q1,V6 1280]) a3H u) (C3 F D.enter0 ad S (by decide :i7 1280) az) ?_
  rintro bm bn ⟨aB,rfl,V⟩
  refine⟨_,u,?_⟩
  have aC:=(D.c0 V).t1
  refine lg d (A4 u) (lv (o4 u d u) (i8 ?_))
  cases oi aA
  exact qd ⟨aB,u,aC,((((k.le.trans l.le).trans m.le).trans C.le).trans V.le)⟩
 rintro _ bo ⟨H,rfl,aD,bp⟩
 refine l4 (D4 ai u (fun aE I=>?_) (fun aE I=>?_))
 ·refine sr ?_
  cases I
 refine j5 (qr (lv (N4 u) (ns ?_)))
 obtain⟨W,aF,aG⟩:=ob I
 refine l6 (IW w K [] H [(0,V6 q0),(1,V6 q1),(2,V6 q2),(3,V6 q3),(10,pt i),(12,V6 W)] [u9 i [V6 0,V6 0] 238] (i7 W)) ?_ ?_
 ·refine j7 ?_
  obtain⟨bq,aH,aI⟩:=ob aF
  refine qw (fun (J:Int)=>IW w K [] H [(0,V6 q0),(1,V6 q1),(2,V6 q2),(3,V6 q3),(4,V6 q4),(10,pt i),(12,V6 J)] [u9 i [V6 0,V6 0] 238] (i7 J)) aH ⟨H,u,aD,kr,M1⟩ ?_
  rintro J _ br bs aJ aK ⟨X,rfl,Y,aa,aL⟩
  refine p9 (sr (mv u (mv u (lv (y4 u u) ?_))))
  obtain⟨bu,aM,aN⟩:=ob aJ
  refine lv (c5u u u aM) (mv u (lv (W5 u u) (nq (D4 aN u (fun aO O=>?_) (fun aO O=>?_)))))
  ·refine j5 (l4 (j7 (j3 (mv u (lv (y4 u u) (av u (nb ?_)))))))
   cases oi O
   exact qd ⟨_,u,X,u,Y,aa,(s6 _)⟩
  refine w8 (g6 (g6 ?_))
  cases oi O
  cases aK _ u
  refine l5 ?_
  cases oi aI
  exact qd ⟨X,u,Y,aa,aL⟩
 rintro _ bv ⟨bx,rfl,ab,bz,bA⟩
 refine qr (mv u (lv (U9 u u) (mv u (lv (y4 u u) (lv (U9 u u) (mv u (lv (U9 u u) (lv (y4 u u) (mv u ?_)))))))))
 refine lv (U9 u u) (mv u (lv (U9 u u) (mv u ?_)))
 obtain⟨bB,aP,aQ⟩:=ob aG
 refine lv (a4i u u aP) (lv (y4 u u) ?_)
 obtain⟨o,aR,aS⟩:=ob aQ
 refine lk c6H (b4a F ab.enter0 (s6 _) (s6 _) aR) ?_
 rintro bC bD ⟨aT,rfl,aU,aV,aW⟩
 have aX:=(ab.c0 aU).t1
 refine lv (B2 u u) (lv (B2 u u) (lw [V6 o.1.Up,V6 o.1.Down] Q1 aX fun bE ac=>(av u (nq (l3 ?_)))))
 cases oi aS
 exact R6 (vs:=[_,_]) results238 ⟨⟨_,_,u,A5 Q1 (cs:=[V6 o.1.Up,V6 o.1.Down]) (fun j c e=>by rw [Nat.zero_add,ac.mem_obj m0];exact e) (.inl ⟨u,u,u⟩)⟩,u,trivial⟩ ⟨aT,u,ac.s,aV,aW⟩

theorem U8 {q0:S8}{q1:u5}{q2:q9}{q3:Int}{r:Int}(hS:SH w K Z w K [u9 g1 [V3 A a b,V3 B c d,V3 C f i,V3 D k l] 160])(af:b7 D8 K A a b q0.c_.Stops)(ag:b7 L0 K B c d q0.c_.Syns)(ah:b7 F8 K C f i q0.s_.Docs)(ai:b7 B8 K D k l q0.s_.Entries)(aj:b7 D8 K G m n q1.Stops)(ak:b7 L0 K H o p q1.Syns)(am:q2.length≤maxLen)(an:i7 q3)(hm:I7 F q0 q1 q2 q3=some r):
  Calls prog 237 #[.pointer (some ⟨g1,2,none⟩),.agg #[V3 G m n,V3 H o p],sv q2,V6 q3] w fun e w'=>∃K',e= .returned (V6 r)∧SH w K Z w' K' [u9 g1 [V3 A a b,V3 B c d,V3 C f i,V3 D k l] 160]∧i7 r:=by
 rw [I7] at hm
 refine ci func237 u ntmps237 (sr (bx u hS fun X aI ao=>?_))
 have ap:SH _ _ _ _ _ [u9 X [V3 G m n,V3 H o p] 26,_]:=ao
 refine lv (N4 u) (nr (mv u (mv u ?_)))
 obtain⟨I,aq,ar⟩:=ob hm
 have Y:=ap.f1
 refine lk c6y (a4V F Y.e1 af ag ah ai an aq) ?_
 rintro aJ aK ⟨J,O,R,S,T,U,aa,rfl,V,au,aw,ax⟩
 have ay:=(Y.c1 V).t2
 refine mv u (lv (B2 u u) (lv (B2 u u) (al F7 ay fun ab aL az=>?_)))
 have aA:SH _ _ _ _ _ [u9 ab [V6 0,V3 none 0 0,V3 none 0 0] 67,_,_]:=az
 refine lw [V6 I.1.Id,V3 J O R,V3 S T U] F7 aA fun aM ac=>(av u (P6 (mv u (lv (A4 u) (nq (D4 ar u (fun aB W=>?_) (fun aB W=>?_)))))))
 ·refine sr (lv (N4 u) (nq (rr ?_)))
  cases oi W
  exact ey results237 ⟨aa,u,ac.s,M1⟩
 refine j5 (qs ?_)
 have q:=ac.drew
 refine wh1 (fun w'=>G8 aa w'∧A9 X [V3 G m n,V3 H o p] w'∧A9 ab [V6 I.1.Id,V3 J O R,V3 S T U] w') (fun w'=>True) 7 [] mixed ⟨q.hasK kr,q.hasObj m2,q.hasObj m0⟩ (fun _=>trivial) (gh (fun _ h=>B4 (ds:=[V3 G m n,V3 H o p]) E2 u u u h.2.1) (gh (fun _ h=>B4 (ds:=[V6 I.1.Id,V3 J O R,V3 S T U]) F7 u u u h.2.2) (gt (i5 u) (gn ?_))))
 obtain⟨aN,aC,aD⟩:=ob W
 refine lk c7c (b0F F q.enter0 au aw ax am aC) ?_
 rintro aO aP ⟨aQ,rfl,s,aE⟩
 have x:=(q.c0 s).t3
 refine i8 (qh ⟨x.hasK s.le,x.hasObj m2,x.hasObj m0⟩ (fun _=>trivial) (gn ?_))
 obtain⟨aR,aF,aG⟩:=ob aD
 refine lk c28 (a3e F x.enter0 (aj.mono (V.le.trans s.le)) (ak.mono (V.le.trans s.le)) aE aF) ?_
 rintro aS aT ⟨aU,aV,aW,aH,rfl,ad,ae⟩
 have y:=(x.c0 ad).t4
 refine i8 (qh ⟨y.hasK (s.le.trans ad.le),y.hasObj m3,y.hasObj m1⟩ (fun _=>trivial) (gt (q7 underlying122 u ae) (gt (x8 u) (gd' (l4 (l3 ?_))))))
 cases oi aG
 exact ey results237 ⟨aH,u,y.s,ae.rn⟩

theorem a1K {q0:S8}{q1:q9}{q2:q9}{q3:Int}{r:Int}(hS:SH w K Z w K [u9 g1 [V3 A a b,V3 B c d,V3 C f i,V3 D k l] 160])(x:b7 D8 K A a b q0.c_.Stops)(y:b7 L0 K B c d q0.c_.Syns)(s:b7 F8 K C f i q0.s_.Docs)(O:b7 B8 K D k l q0.s_.Entries)(R:q1.length≤maxLen)(ab:q2.length≤maxLen)(au:i7 q3)(hm:L1 F q0 q1 q2 q3=some r):
  Calls prog 168 #[.pointer (some ⟨g1,0,none⟩),sv q1,sv q2,V6 q3] w fun e w'=>∃K',e= .returned (V6 r)∧SH w K Z w' K' [u9 g1 [V3 A a b,V3 B c d,V3 C f i,V3 D k l] 160]∧i7 r:=by
 rw [L1] at hm
 refine ci func168 u ntmps168 (sr (lv (N4 u) (nr (mv u (mv u (mv u (mv u ?_)))))))
 obtain⟨cx,bq,br⟩:=ob hm
 refine lk c1A (a1J F hS.e1 x y s O R ab au bq) ?_
 rintro cy cz ⟨aY,aZ,ba,ac,rfl,m,S⟩
 have aw:=(hS.c1 m).t1
 refine av u (P6 (mv u (lv (q7 underlying51 u S) (lv (A6 u u) (nq (D4 br u (fun bs ax=>?_) (fun bs ax=>?_)))))))
 ·refine sr (lv (N4 u) (nq (rr ?_)))
  cases oi ax
  exact ey results168 ⟨ac,u,aw,M1⟩
 refine j5 (qr (lv (N4 u) (P6 (mv u (lv (B3 u) (fa a5L u (fl S5 u a4l m0 aw u (lv (q7 underlying27 u (s.mono m.le)) (lv (r_m u) ?_)))))))))
 refine nq ?_
 obtain⟨bb,bu,bv⟩:=ob ax
 refine l6 (IW w K Z ac [(0,pt g1),(1,sv q1),(2,sv q2),(3,V6 q3),(9,V3 aY aZ ba),(10,V6 bb)] [u9 g1 [V3 A a b,V3 B c d,V3 C f i,V3 D k l] 160] (i7 bb)) ?_ ?_
 ·refine j7 ?_
  obtain⟨cA,bx,bz⟩:=ob bu
  refine qF (fun (bc:Nat) (ad:Int)=>IW w K Z ac [(0,pt g1),(1,sv q1),(2,sv q2),(3,V6 q3),(9,V3 aY aZ ba),(10,V6 ad),(27,V3 C f i),(28,V6 (q0.s_.Docs.length:Int)),(29,V6 ((bc:Nat):Int))] [u9 g1 [V3 A a b,V3 B c d,V3 C f i,V3 D k l] 160] (i7 ad)) bx ⟨ac,u,aw,kr,M1⟩ ?_ ?_
  ·rintro bc ad _ bA cB hi54 bB ⟨ay,rfl,ae,G,bd⟩
   refine sr (lv (s7 u u) (ns (C2 u (b8 (by omega)) (j5 (l4 (p9 (j7 (sr ?_))))))))
   obtain⟨az,bC,bD⟩:=ob bB
   refine li underlying27 F7 (s.mono (m.le.trans G)) bC fun bE bF cC bG bH=>?_
   obtain⟨aA,aB,aC,aD,aE,aF,rfl,bI,cD,cE⟩:=bG
   have bJ:E9 _ bE bF [V6 az.Id,V3 aA aB aC,V3 aD aE aF]:=bH
   refine lv (F5 F7 u ae bJ u) (al F7 ae fun be cF bK=>?_)
   have bL:SH _ _ _ _ _ [u9 be [V6 0,V3 none 0 0,V3 none 0 0] 67,_]:=bK
   refine lw [V6 az.Id,V3 aA aB aC,V3 aD aE aF] F7 bL fun cG bM=>(nq ?_)
   have af:=bM.drew
   refine wh1 (fun w'=>G8 ay w'∧A9 g1 [V3 A a b,V3 B c d,V3 C f i,V3 D k l] w'∧A9 be [V6 az.Id,V3 aA aB aC,V3 aD aE aF] w') (fun w'=>True) 14 [] mixed ⟨af.hasK kr,af.hasObj m1,af.hasObj m0⟩ (fun _=>trivial) (gt (i5 u) (gt (i5 u) (gt (B3 u) (gt (c9 a5L u) (gt (i5 u) (gt (B3 u) (gt (c9 b2r u) (gh (fun _ h=>B4 (ds:=[V3 A a b,V3 B c d]) E2 u u u h.2.1) (gt (i5 u) ?_)))))))))
   refine gt (c9 S6 u) (gh (fun _ h=>A8 E4 u u h.2.2) (gn ?_))
   obtain⟨cH,bN,bO⟩:=ob bD
   have bf:=af.f1
   refine lk c1E (U8 F bf.e1 (x.mono (m.le.trans G)) (y.mono (m.le.trans G)) (s.mono (m.le.trans G)) (O.mono (m.le.trans G)) (x.mono (m.le.trans G)) (y.mono (m.le.trans G)) R bI bN) ?_
   rintro cI cJ ⟨bP,rfl,aG,cK⟩
   have ag:=(bf.c1 aG).t2
   refine i8 (qh ⟨ag.hasK aG.le,ag.hasObj m0,ag.hasObj m1⟩ (fun _=>trivial) (gt (y4 u u) (gt (x8 u) (gd' (x9 (qg (lv (A3 u u (B5 hi54 (b7.max (s.mono m.le)))) (mv u (i8 ?_)))))))))
   cases oi bO
   exact qd ⟨bP,u,ag.s,(G.trans aG.le),(s6 _)⟩
  rintro ad _ bA bQ ⟨ay,rfl,ae,G,bd⟩
  subst bQ
  refine sr (lv (s7 u u) (ns (C1 u (c6 (by omega)) (w8 (g6 (g6 (l5 ?_)))))))
  cases oi bz
  exact qd ⟨ay,u,ae,G,bd⟩
 rintro _ cL ⟨bg,rfl,bR,o,ah⟩
 refine qs ?_
 obtain⟨T,bS,bT⟩:=ob bv
 refine l6 (fun E' w'=>∃aH aI,E'=[(0,pt g1),(13,pt aH)]∧SH w K Z w' aI [u9 aH [V6 T.Up,V6 T.Down] 238,u9 g1 [V3 A a b,V3 B c d,V3 C f i,V3 D k l] 160]∧I9 bg aI∧i7 T.Up∧i7 T.Down) ?_ ?_
 ·obtain⟨cM,bh,bU⟩:=ob bS
  obtain⟨cN,aJ,bV⟩:=ob bU
  obtain⟨J,ai,aj⟩:=ob bV
  have U:=bR.drew
  refine j_0 (fun w'=>G8 bg w'∧A9 g1 [V3 A a b,V3 B c d,V3 C f i,V3 D k l] w') 33 [] mixed ⟨U.hasK kr,U.hasObj m0⟩ (jv 0 u (i5 u) (jv 1 u (q7 underlying51 u (S.mono o)) (jv 2 u (i5 u) (jv 3 u (B3 u) (jv 4 u (c9 a5L u) (jv 5 u (i5 u) (jv 6 u (B3 u) (jv 7 u (c9 b2r u) (jh 8 u (fun _ h=>B4 (ds:=[V3 A a b,V3 B c d]) E2 u u u h.2) ?_)))))))))
  refine jv 9 u (i5 u) (jv 10 u (i5 u) (jv 12 u (i5 u) (jv 13 u (i5 u) (jv 14 u (B3 u) (jv 15 u (c9 a5L u) (jv 16 u (c9 S5 u) (jh 17 u (fun _ h=>A8 a4l u u h.2) (jv 18 u (q7 underlying27 u (s.mono (m.le.trans o))) (jv 19 u (i5 u) ?_)))))))))
  refine jv 20 u (B3 u) (jv 21 u (c9 a5L u) (jv 22 u (i5 u) (jv 23 u (i5 u) (j2 11 30 u u ?_ ?_))))
  ·refine lk c1E (U8 F U.e1 (x.mono (m.le.trans o)) (y.mono (m.le.trans o)) (s.mono (m.le.trans o)) (O.mono (m.le.trans o)) (x.mono (m.le.trans o)) (y.mono (m.le.trans o)) R au bh) ?_
   rintro cO cP ⟨cQ,rfl,q,aK⟩
   have V:=(U.c1 q).t1
   refine R7 ⟨V.hasK q.le,V.hasObj m0⟩ (j2 24 30 u u ?_ ?_)
   ·refine lk b89 (N8 F V.e1 (x.mono ((m.le.trans o).trans q.le)) (y.mono ((m.le.trans o).trans q.le)) (s.mono ((m.le.trans o).trans q.le)) (O.mono ((m.le.trans o).trans q.le)) R ab aJ) ?_
    rintro cR cS ⟨cT,cU,cV,cW,rfl,H,aL⟩
    have W:=(V.c1 H).t1
    refine R7 ⟨W.hasK (q.le.trans H.le),W.hasObj m0⟩ (jv 25 u (q7 underlying102 u aL) (j2 26 30 u u ?_ ?_))
    ·refine lk b88 (a1S F W.enter0 (S.mono o).rn aK ah (s.mono (m.le.trans o)).rn aL.rn ai) ?_
     rintro cX cY ⟨bW,rfl,X,bX,bY⟩
     have aM:=(W.c0 X).t1
     refine R7 ⟨aM.hasK ((q.le.trans H.le).trans X.le),aM.hasObj m0⟩ (jv 27 u (i5 u) (jv 28 u (B2 u u) (jv 29 u (B2 u u) (j1 30 u (al Q1 aM fun bi cZ bZ=>?_)))))
     have aN:SH _ _ _ _ _ [u9 bi [V6 0,V6 0] 238,_]:=bZ
     refine R7 ⟨aN.hasK ((q.le.trans H.le).trans X.le),aN.hasObj m1⟩ (j1 31 u (lw [V6 J.1.Up,V6 J.1.Down] Q1 aN fun da aO=>(R7 ⟨aO.hasK ((q.le.trans H.le).trans X.le),aO.hasObj m1⟩ (jv 32 u (x8 u) (jd ?_)))))
     cases oi aj
     exact qd ⟨bi,bW,u,aO,((q.le.trans H.le).trans X.le),bX,bY⟩
    refine al Q1 W fun bj db ca=>?_
    have ak:SH _ _ _ _ _ [u9 bj [V6 0,V6 0] 238,_]:=ca
    refine R7 ⟨ak.hasK (q.le.trans H.le),ak.hasObj m1⟩ (j1 26 u (lk b88 (a1S F ak.enter0 (S.mono o).rn aK ah (s.mono (m.le.trans o)).rn aL.rn ai) ?_))
    rintro dc dd ⟨cb,rfl,am,cc,cd⟩
    have aP:=(ak.c0 am).t2
    refine R7 ⟨aP.hasK ((q.le.trans H.le).trans am.le),aP.hasObj m1⟩ (jv 27 u (i5 u) (jv 28 u (B2 u u) (jv 29 u (B2 u u) (j1 31 u (lw [V6 J.1.Up,V6 J.1.Down] Q1 aP fun de aQ=>(R7 ⟨aQ.hasK ((q.le.trans H.le).trans am.le),aQ.hasObj m1⟩ (jv 32 u (x8 u) (jd ?_))))))))
    cases oi aj
    exact qd ⟨bj,cb,u,aQ,((q.le.trans H.le).trans am.le),cc,cd⟩
   refine al Q1 V fun bk df ce=>?_
   have aR:SH _ _ _ _ _ [u9 bk [V6 0,V6 0] 238,_]:=ce
   refine R7 ⟨aR.hasK q.le,aR.hasObj m1⟩ (j1 24 u ?_)
   have bl:=aR.f1
   refine lk b89 (N8 F bl.e1 (x.mono ((m.le.trans o).trans q.le)) (y.mono ((m.le.trans o).trans q.le)) (s.mono ((m.le.trans o).trans q.le)) (O.mono ((m.le.trans o).trans q.le)) R ab aJ) ?_
   rintro dg dh ⟨di,dj,dk,dl,rfl,Y,bm⟩
   have an:=(bl.c1 Y).t2
   refine R7 ⟨an.hasK (q.le.trans Y.le),an.hasObj m0⟩ (jv 25 u (q7 underlying102 u bm) (j1 26 u (lk b88 (a1S F an.enter0 (S.mono o).rn aK ah (s.mono (m.le.trans o)).rn bm.rn ai) ?_)))
   rintro dm dn ⟨cf,rfl,ao,cg,ch⟩
   have aS:=(an.c0 ao).t2
   refine R7 ⟨aS.hasK ((q.le.trans Y.le).trans ao.le),aS.hasObj m0⟩ (jv 27 u (i5 u) (jv 28 u (B2 u u) (jv 29 u (B2 u u) (j1 31 u (lw [V6 J.1.Up,V6 J.1.Down] Q1 aS.f1 fun dp aT=>(R7 ⟨aT.hasK ((q.le.trans Y.le).trans ao.le),aT.hasObj m1⟩ (jv 32 u (x8 u) (jd ?_))))))))
   cases oi aj
   exact qd ⟨bk,cf,u,aT,((q.le.trans Y.le).trans ao.le),cg,ch⟩
  refine al Q1 U fun bn dq cj=>?_
  have aU:SH _ _ _ _ _ [u9 bn [V6 0,V6 0] 238,_]:=cj
  refine R7 ⟨aU.hasK kr,aU.hasObj m1⟩ (j1 11 u ?_)
  have bo:=aU.f1
  refine lk c1E (U8 F bo.e1 (x.mono (m.le.trans o)) (y.mono (m.le.trans o)) (s.mono (m.le.trans o)) (O.mono (m.le.trans o)) (x.mono (m.le.trans o)) (y.mono (m.le.trans o)) R au bh) ?_
  rintro dr dt ⟨du,rfl,I,ck⟩
  have ap:=(bo.c1 I).t2
  refine R7 ⟨ap.hasK I.le,ap.hasObj m0⟩ (j1 24 u (lk b89 (N8 F ap.e1 (x.mono ((m.le.trans o).trans I.le)) (y.mono ((m.le.trans o).trans I.le)) (s.mono ((m.le.trans o).trans I.le)) (O.mono ((m.le.trans o).trans I.le)) R ab aJ) ?_))
  rintro dv dw ⟨dx,dy,dz,dA,rfl,aa,bp⟩
  have aq:=(ap.c1 aa).t2
  refine R7 ⟨aq.hasK (I.le.trans aa.le),aq.hasObj m0⟩ (jv 25 u (q7 underlying102 u bp) (j1 26 u (lk b88 (a1S F aq.enter0 (S.mono o).rn ck ah (s.mono (m.le.trans o)).rn bp.rn ai) ?_)))
  rintro dB dC ⟨cl,rfl,ar,cm,cn⟩
  have aV:=(aq.c0 ar).t2
  refine R7 ⟨aV.hasK ((I.le.trans aa.le).trans ar.le),aV.hasObj m0⟩ (jv 27 u (i5 u) (jv 28 u (B2 u u) (jv 29 u (B2 u u) (j1 31 u (lw [V6 J.1.Up,V6 J.1.Down] Q1 aV.f1 fun dD aW=>(R7 ⟨aW.hasK ((I.le.trans aa.le).trans ar.le),aW.hasObj m1⟩ (jv 32 u (x8 u) (jd ?_))))))))
  cases oi aj
  exact qd ⟨bn,cl,u,aW,((I.le.trans aa.le).trans ar.le),cm,cn⟩
 rintro _ dE ⟨aH,aI,rfl,aX,dF,cp,cq⟩
 refine qr (lv (n8 (ds:=[V6 T.Up,V6 T.Down]) Q1 u m0 aX u u) ?_)
 obtain⟨dG,cr,cs⟩:=ob bT
 refine lk c6A (b0H F aX.enter0 cp cq (by decide :i7 1000) cr) ?_
 rintro dH dI ⟨ct,rfl,cu,cv⟩
 have cw:=(aX.c0 cu).t2
 refine av u (nq (l3 ?_))
 cases oi cs
 exact ey results168 ⟨ct,u,cw.s,cv⟩

theorem b0G {q0:List (List Int)}{q1:Int}{r:(List Int)}(hS:SH w K [] w K [])(T:b7 (G0 C9) K A a b q0)(aJ:i7 q1)(hm:a1j F q0 q1=some r):
  Calls prog 241 #[V3 A a b,V6 q1] w fun e w'=>∃a_1 n_2 c_3 K',e= .returned (V3 a_1 n_2 c_3)∧SH w K [] w' K' [tail (V3 a_1 n_2 c_3) 3 1]∧b7 C9 K' a_1 n_2 c_3 r:=by
 rw [a1j] at hm
 refine ci func241 u ntmps241 (sr (lv (r_n u) (nr (b0 C9 underlying51 E4 hS fun U w7 K8 V ar au=>(av u (ns (p9 ?_)))))))
 obtain⟨aL,aM,aN⟩:=ob hm
 refine l6 (IV w K [] K8 [(0,V3 A a b),(1,V6 q1),(5,V3 U 0 0),(22,.bool aL)] [tail (V3 U 0 0) 3 1]) ?_ ?_
 ·refine j3 (mv u ?_)
  obtain⟨cu,aO,aP⟩:=ob aM
  refine lk c6I (b0L F au.enter0 (T.mono V) aO) ?_
  rintro cv cw ⟨aQ,rfl,ad⟩
  have ae:=(au.c0 ad).t1
  refine lv (A4 u) (mv u (bt aP (fun k af=>?_) (fun k af=>?_)))
  ·refine lu k (lu k (lu k (lv (L8 u k u) (i8 ?_))))
   cases oi af
   exact qd ⟨aQ,u,ae,ad.le⟩
  refine lg k (i5 u) ?_
  obtain⟨cx,aR,aS⟩:=ob af
  refine A0 (wg u u k) u (z7 (vs:=[V6 q1,V6 0,V6 5]) a3H u) (C3 F ae.enter0 aJ M1 (by decide :i7 5) aR) ?_
  rintro cy cz ⟨aT,rfl,aw⟩
  refine⟨_,u,?_⟩
  have aU:=(ae.c0 aw).t1
  refine lg k (A4 u) (lv (o4 u k u) (i8 ?_))
  cases oi aS
  exact qd ⟨aT,u,aU,(ad.le.trans aw.le)⟩
 rintro _ cA ⟨W,rfl,ag,B⟩
 refine l4 (D4 aN u (fun aV ah=>?_) (fun aV ah=>?_))
 ·refine sr (mv u (av u (nq (rr ?_))))
  cases oi ah
  exact ey results241 ⟨U,0,0,W,u,ag,(ar.mono B)⟩
 refine j5 (qs (sr (mv u ?_)))
 obtain⟨C,aW,aX⟩:=ob ah
 refine li underlying243 a1i (T.mono (V.trans B)) aW fun aY aZ cB ba bb=>?_
 obtain⟨q,s,x,rfl,X⟩:=ba
 have bc:E9 _ aY aZ [V3 q s x]:=bb
 refine lv (y7 a1i u ag (bc 0 _ u)) (lv (q7 underlying51 u X) (lv (r_m u) (nq ?_)))
 obtain⟨bd,be,bf⟩:=ob aX
 refine l6 (fun E' w'=>∃D G H I,E'=[(5,V3 D G H)]∧SH w K [] w' I [tail (V3 D G H) 3 1]∧I9 W I∧b7 C9 I D G H bd) ?_ ?_
 ·refine j7 ?_
  obtain⟨cC,bg,bh⟩:=ob be
  refine qF (fun (y:Nat) (ai:(List Int)) E' w'=>∃c d f l,E'=[(0,V3 A a b),(1,V6 q1),(5,V3 c d f),(26,V3 q s x),(27,V6 (C.length:Int)),(28,V6 ((y:Nat):Int))]∧SH w K [] w' l [tail (V3 c d f) 3 1]∧I9 W l∧b7 C9 l c d f ai) bg ⟨U,0,0,W,u,ag,kr,(ar.mono B)⟩ ?_ ?_
  ·rintro y ai _ bi cD hi77 bj ⟨c,d,f,l,rfl,Y,o,aa⟩
   refine sr (lv (s7 u u) (ns (C2 u (b8 (by omega)) (j5 (l4 (p9 (j7 (sr ?_))))))))
   obtain⟨m,bk,bl⟩:=ob bj
   refine li underlying51 E4 (X.mono o) bk fun bm bn cE bo bp=>?_
   obtain⟨rfl,ax⟩:=bo
   have bq:E9 _ bm bn [V6 m]:=bp
   refine lv (y7 E4 u Y (bq 0 _ u)) (av u (nr (mv u (av u (lv (r_t u) (P6 (mv u ?_)))))))
   obtain⟨ay,br,bs⟩:=ob bl
   refine a64 (t:=(G0 C9)) wn u underlying243 a1i u u (T.mono ((V.trans B).trans o)) br fun az aA aB aj=>(lv (q7 (t:=(G0 C9)) underlying243 u aj) (lv (r_m u) (nq ?_)))
   obtain⟨ak,bu,bv⟩:=ob bs
   refine l6 (IW w K [] l [(0,V3 A a b),(1,V6 q1),(5,V3 c d f),(7,V6 m),(8,V6 ak.1),(9,.bool ak.2),(26,V3 q s x),(27,V6 (C.length:Int)),(28,V6 ((y:Nat):Int))] [tail (V3 c d f) 3 1] (i7 ak.1)) ?_ ?_
   ·refine j7 ?_
    obtain⟨cF,bx,bz⟩:=ob bu
    refine qF (fun (al:Nat) (J:Int×Bool)=>IW w K [] l [(0,V3 A a b),(1,V6 q1),(5,V3 c d f),(7,V6 m),(8,V6 J.1),(9,.bool J.2),(26,V3 q s x),(27,V6 (C.length:Int)),(28,V6 ((y:Nat):Int)),(34,V3 az aA aB),(35,V6 (ay.length:Int)),(36,V6 ((al:Nat):Int))] [tail (V3 c d f) 3 1] (i7 J.1)) bx ⟨l,u,Y,kr,ax⟩ ?_ ?_
    ·rintro al J _ bA cG hi116 bB ⟨aC,rfl,O,ab,aD⟩
     refine sr (lv (s7 u u) (ns (C2 u (b8 (by omega)) (j5 (l4 (p9 (j7 (sr ?_))))))))
     obtain⟨cH,bC,bD⟩:=ob bB
     refine li underlying243 a1i (aj.mono ab) bC fun bE bF cI bG bH=>?_
     obtain⟨bI,bJ,bK,rfl,bL⟩:=bG
     have bM:E9 _ bE bF [V3 bI bJ bK]:=bH
     refine lv (y7 a1i u O (bM 0 _ u)) (av u (nr (mv u (mv u (lv (y4 u u) ?_)))))
     obtain⟨bN,bO,bP⟩:=ob bD
     refine lk c6J (b5N F O.enter0 bL (s6 _) bO) ?_
     rintro cJ cK ⟨am,rfl,aE,bQ⟩
     have aF:=(O.c0 aE).t1
     refine mv u (lv (B2 u u) (lv (B2 u u) (av u (av u (ns ?_)))))
     obtain⟨bR,bS,bT⟩:=ob bP
     refine l6 (IV w K [] am [(0,V3 A a b),(1,V6 q1),(5,V3 c d f),(7,V6 m),(9,.bool bR),(12,V6 bN.1),(26,V3 q s x),(27,V6 (C.length:Int)),(28,V6 ((y:Nat):Int)),(34,V3 az aA aB),(35,V6 (ay.length:Int)),(36,V6 ((al:Nat):Int))] [tail (V3 c d f) 3 1]) ?_ ?_
     ·refine j3 (mv u (mv u (bt bS (fun R an=>?_) (fun R an=>?_))))
      ·refine lg R (i5 u) (lv (o0 u R u) (av u (i8 ?_)))
       cases oi an
       exact qd ⟨am,u,aF,kr⟩
      refine lu R (lv (J6 u R u) (av u (i8 ?_)))
      cases oi an
      exact qd ⟨am,u,aF,kr⟩
     rintro _ cL ⟨bU,rfl,bV,bW⟩
     refine l4 (j3 (mv u (av u (nb (qg (lv (A3 u u (B5 hi116 (b7.max aj))) (mv u (i8 ?_))))))))
     cases oi bT
     exact qd ⟨bU,u,bV,((ab.trans aE.le).trans bW),bQ⟩
    rintro J _ bA bX ⟨aC,rfl,O,ab,aD⟩
    subst bX
    refine sr (lv (s7 u u) (ns (C1 u (c6 (by omega)) (w8 (g6 (g6 (l5 ?_)))))))
    cases oi bz
    exact qd ⟨aC,u,O,ab,aD⟩
   rintro _ cM ⟨ao,rfl,aG,S,cN⟩
   refine qs ?_
   obtain⟨bY,bZ,ca⟩:=ob bv
   refine l6 (IV w K [] ao [(0,V3 A a b),(1,V6 q1),(5,V3 c d f),(7,V6 m),(26,V3 q s x),(27,V6 (C.length:Int)),(28,V6 ((y:Nat):Int)),(64,.bool bY)] [tail (V3 c d f) 3 1]) ?_ ?_
   ·refine j3 (mv u (mv u (bt bZ (fun i ap=>?_) (fun i ap=>?_))))
    ·refine lg i (i5 u) (lg i (i5 u) (lg i (i5 u) (lg i (q7 (t:=(G0 C9)) underlying243 u (b7.mono (((V.trans B).trans o).trans S) T)) (lg i (y4 u u) (lg i (H2 u u) (lg i (i5 u) (lg i (y4 u u) (lg i (W5 u u) (lv (o0 u i u) ?_)))))))))
     refine i8 ?_
     cases oi ap
     exact qd ⟨ao,u,aG,kr⟩
    iterate 9 refine lu i ?_
    refine lv (J6 u i u) (i8 ?_)
    cases oi ap
    exact qd ⟨ao,u,aG,kr⟩
   rintro _ cO ⟨cb,rfl,aH,ac⟩
   refine l4 (D4 ca u (fun cc aq=>?_) (fun cc aq=>?_))
   ·refine j3 (mv u (mv u (lb C9 (V6 m) [V6 m] m underlying51 E4 ⟨u,ax⟩ aH fun cP cQ cR aI cd ce=>?_)))
    obtain⟨cS,cf,cg⟩:=ob aq
    refine lp underlying51 E4 (aa.mono ((S.trans ac).trans aI)) cd cf ce.f1 fun ch cj ck cT cl cm cn cp=>(av u (nb (qg (lv (A3 u u (B5 hi77 (b7.max X))) (mv u (i8 ?_))))))
    cases oi cg
    exact qd ⟨ch,cj,ck,cl,u,cp.s,((((o.trans S).trans ac).trans aI).trans cm),cn⟩
   refine j5 (x9 (qg (lv (A3 u u (B5 hi77 (b7.max X))) (mv u (i8 ?_)))))
   cases oi aq
   exact qd ⟨c,d,f,cb,u,aH,((o.trans S).trans ac),(aa.mono (S.trans ac))⟩
  rintro ai _ bi cq ⟨c,d,f,l,rfl,Y,o,aa⟩
  subst cq
  refine sr (lv (s7 u u) (ns (C1 u (c6 (by omega)) (w8 (g6 (g6 (l5 ?_)))))))
  cases oi bh
  exact qd ⟨c,d,f,l,u,Y,o,aa⟩
 rintro _ cU ⟨D,G,H,I,rfl,cr,cV,cs⟩
 refine qr (mv u (av u (nq (l3 ?_))))
 cases oi bf
 exact ey results241 ⟨D,G,H,I,u,cr,cs⟩

theorem a7n {q0:S8}{q1:r5}{q2:y5}{r:Int}(hS:SH w K Z w K [u9 g1 [V3 A a b,V3 B c d,V3 C f i,V3 D k l] 160])(aQ:b7 D8 K A a b q0.c_.Stops)(aR:b7 L0 K B c d q0.c_.Syns)(bc:b7 F8 K C f i q0.s_.Docs)(bd:b7 B8 K D k l q0.s_.Entries)(du:i7 q1.Kind)(be:q1.Field.length≤maxLen)(bp:b7 D8 K G m n q1.Words)(bq:i7 q1.From)(dv:i7 q1.To)(dw:b7 F3 K H o p q1.Kids)(bf:i7 q2.Id)(dx:b7 K5 K I q s q2.Fields)(dy:b7 M5 K J v x q2.Nums)(hD: ¬dr.D)(hm:T3 F q0 q1 q2=some r):
  Calls prog 169 #[.pointer (some ⟨g1,0,none⟩),.agg #[V6 q1.Kind,sv q1.Field,V3 G m n,V6 q1.From,V6 q1.To,V3 H o p],.agg #[V6 q2.Id,V3 I q s,V3 J v x]] w fun e w'=>∃K',e= .returned (V6 r)∧SH w K Z w' K' [u9 g1 [V3 A a b,V3 B c d,V3 C f i,V3 D k l] 160]∧i7 r:=by
 rw [T3] at hm
 refine ci func169 u ntmps169 (sr (bx u hS fun U dz br=>?_))
 have bs:SH _ _ _ _ _ [u9 U [V6 q1.Kind,sv q1.Field,V3 G m n,V6 q1.From,V6 q1.To,V3 H o p] 33,_]:=br
 refine bx u bs fun ac dA bu=>?_
 have bv:SH _ _ _ _ _ [u9 ac [V6 q2.Id,V3 I q s,V3 J v x] 67,_,_]:=bu
 refine lv (N4 u) (ns ?_)
 have aw:=bv.drew
 refine wh1 (fun w'=>G8 K w'∧A9 g1 [V3 A a b,V3 B c d,V3 C f i,V3 D k l] w'∧A9 U [V6 q1.Kind,sv q1.Field,V3 G m n,V6 q1.From,V6 q1.To,V3 H o p] w') (fun w'=>True) 9 [] mixed ⟨aw.hasK kr,aw.hasObj m2,aw.hasObj m1⟩ (fun _=>trivial) (gt (i5 u) (gt (B3 u) (gt (c9 b2r u) (gh (fun _ h=>B4 (ds:=[V3 A a b,V3 B c d]) E2 u u u h.2.1) (gt (c9 Z9 u) (gh (fun _ h=>A8 T1 u u h.2.2) (gn ?_)))))))
 obtain⟨dB,bz,bA⟩:=ob hm
 refine lk c7p (c0r Tryz.strings_Join_none Tryz.strings_Join aw.enter0 bp hD bz) ?_
 rintro dC dD ⟨dE,rfl,y,bB⟩
 have ax:=(aw.c0 y).t3
 refine i8 (qh ⟨ax.hasK y.le,ax.hasObj m2,ax.hasObj m1⟩ (fun _=>trivial) (gn ?_))
 obtain⟨aS,bC,bD⟩:=ob bA
 refine lk c28 (a3e F ax.enter0 (aQ.mono y.le) (aR.mono y.le) bB bC) ?_
 rintro dF dG ⟨ah,ai,aj,bE,rfl,V,ay⟩
 have az:=(ax.c0 V).t4
 refine i8 (qh ⟨az.hasK (y.le.trans V.le),az.hasObj m3,az.hasObj m2⟩ (fun _=>trivial) (gt (x8 u) (gd' (qs (sr (mv u (lv (q7 underlying122 u ay) (lv (A6 u u) (nq (D4 bD u (fun bF aT=>?_) (fun bF aT=>?_)))))))))))
 ·refine sr (lv (N4 u) (nq (rr ?_)))
  cases oi aT
  exact ey results169 ⟨bE,u,az.s,M1⟩
 refine j5 (qr (a0V (G0 C9) wn u underlying243 a1i az fun bG dH aU R bH bI=>(av u (nr (lv (N4 u) (P6 (mv u (lv (q7 underlying122 u (ay.mono R)) (lv (r_m u) ?_)))))))))
 refine nq ?_
 obtain⟨aV,bJ,bK⟩:=ob aT
 refine l6 (fun E' w'=>∃aD aE aF aG,E'=[(0,pt g1),(4,pt U),(8,V3 aD aE aF),(9,V6 aV.2)]∧SH w K Z w' aG [u9 g1 [V3 A a b,V3 B c d,V3 C f i,V3 D k l] 160,u9 U [V6 q1.Kind,sv q1.Field,V3 G m n,V6 q1.From,V6 q1.To,V3 H o p] 33,tail (V3 aD aE aF) 51 1]∧I9 aU aG∧b7 (G0 C9) aG aD aE aF aV.1∧i7 aV.2) ?_ ?_
 ·refine j7 ?_
  obtain⟨dI,bL,bM⟩:=ob bJ
  have bN:=bI.f2.f3.f4.sb (sk (sk (sk (sk (sd sz)))))
  refine qF (fun (ab:Nat) (ad:(List (List Int))×Int) E' w'=>∃W X Y ak,E'=[(0,pt g1),(4,pt U),(5,pt ac),(7,V3 ah ai aj),(8,V3 W X Y),(9,V6 ad.2),(28,V3 ah ai aj),(29,V6 (aS.length:Int)),(30,V6 ((ab:Nat):Int))]∧SH w K Z w' ak [u9 g1 [V3 A a b,V3 B c d,V3 C f i,V3 D k l] 160,u9 U [V6 q1.Kind,sv q1.Field,V3 G m n,V6 q1.From,V6 q1.To,V3 H o p] 33,u9 ac [V6 q2.Id,V3 I q s,V3 J v x] 67,tail (V3 W X Y) 51 1]∧I9 aU ak∧b7 (G0 C9) ak W X Y ad.1∧i7 ad.2) bL ⟨bG,0,0,aU,u,bN,kr,bH,M1⟩ ?_ ?_
  ·rintro ab ad _ bO dJ hi110 bP ⟨W,X,Y,ak,rfl,aH,O,aW,bg⟩
   refine sr (lv (s7 u u) (ns (C2 u (b8 (by omega)) (j5 (l4 (p9 (j7 (sr (mv u ?_)))))))))
   obtain⟨S,bQ,bR⟩:=ob bP
   refine li underlying122 J8 (ay.mono (R.trans O)) bQ fun bS bT dK bU bV=>?_
   obtain⟨rfl,bh,dL⟩:=bU
   have bW:E9 _ bS bT [sv S.Text,V6 S.At]:=bV
   refine lv (F5 J8 u aH bW u) (al J8 aH fun aA dM bX=>?_)
   have bY:SH _ _ _ _ _ [u9 aA [sv [],V6 0] 125,_,_,_,_]:=bX
   refine av u (lw [sv S.Text,V6 S.At] J8 bY fun dN bZ=>(nr (b0 C9 underlying51 E4 bZ fun ca dO dP T cb aI=>(av u (P6 (mv u (fl W2 u H3 m3 aI u (fl a3b u H3 m1 aI u (fl S6 u E4 m4 aI u ?_)))))))))
   obtain⟨cc,cd,ce⟩:=ob bR
   have bi:=aI.f2
   refine lk c1A (a1J F bi.e1 (b7.mono ((((y.le.trans V.le).trans R).trans O).trans T) aQ) (b7.mono ((((y.le.trans V.le).trans R).trans O).trans T) aR) (b7.mono ((((y.le.trans V.le).trans R).trans O).trans T) bc) (b7.mono ((((y.le.trans V.le).trans R).trans O).trans T) bd) be bh bf cd) ?_
   rintro dQ dR ⟨cf,cg,ch,aX,rfl,aa,aJ⟩
   have cj:=(bi.c1 aa).t6
   refine lv (q7 underlying51 u aJ) (lv (r_m u) (nq ?_))
   obtain⟨bj,ck,cl⟩:=ob ce
   refine l6 (fun E' w'=>∃am an ao aK,E'=[(0,pt g1),(4,pt U),(5,pt ac),(7,V3 ah ai aj),(8,V3 W X Y),(9,V6 ad.2),(11,pt aA),(12,V3 am an ao),(28,V3 ah ai aj),(29,V6 (aS.length:Int)),(30,V6 ((ab:Nat):Int))]∧SH w K Z w' aK [u9 g1 [V3 A a b,V3 B c d,V3 C f i,V3 D k l] 160,u9 U [V6 q1.Kind,sv q1.Field,V3 G m n,V6 q1.From,V6 q1.To,V3 H o p] 33,u9 ac [V6 q2.Id,V3 I q s,V3 J v x] 67,u9 aA [sv S.Text,V6 S.At] 125,tail (V3 W X Y) 51 1,tail (V3 am an ao) 3 1]∧I9 aX aK∧b7 C9 aK am an ao bj) ?_ ?_
   ·refine j7 ?_
    obtain⟨dS,cm,cn⟩:=ob ck
    refine qF (fun (bk:Nat) (aY:(List Int)) E' w'=>∃ae af ag ap,E'=[(0,pt g1),(4,pt U),(5,pt ac),(7,V3 ah ai aj),(8,V3 W X Y),(9,V6 ad.2),(10,V6 ((ab:Nat):Int)),(11,pt aA),(12,V3 ae af ag),(28,V3 ah ai aj),(29,V6 (aS.length:Int)),(30,V6 ((ab:Nat):Int)),(43,V3 cf cg ch),(44,V6 (cc.length:Int)),(45,V6 ((bk:Nat):Int))]∧SH w K Z w' ap [u9 g1 [V3 A a b,V3 B c d,V3 C f i,V3 D k l] 160,u9 U [V6 q1.Kind,sv q1.Field,V3 G m n,V6 q1.From,V6 q1.To,V3 H o p] 33,u9 ac [V6 q2.Id,V3 I q s,V3 J v x] 67,u9 aA [sv S.Text,V6 S.At] 125,tail (V3 W X Y) 51 1,tail (V3 ae af ag) 3 1]∧I9 aX ap∧b7 C9 ap ae af ag aY) cm ⟨ca,0,0,aX,u,cj.f1.f5.f3.f5.f5.f5,kr,(cb.mono aa.le)⟩ ?_ ?_
    ·rintro bk aY _ cp dT hi180 cq ⟨ae,af,ag,ap,rfl,aL,aq,aM⟩
     refine sr (lv (s7 u u) (ns (C2 u (b8 (by omega)) (j5 (l4 (p9 (j7 (sr ?_))))))))
     obtain⟨aN,cr,cs⟩:=ob cq
     refine li underlying51 E4 (aJ.mono aq) cr fun ct cu dU cv cw=>?_
     obtain⟨rfl,dV⟩:=cv
     have cx:E9 _ ct cu [V6 aN]:=cw
     refine lv (y7 E4 u aL (cx 0 _ u)) (av u (ns (E1 mixed (by kernel_rfl) aL (km u (kv (c9 a3c u) (kh (z6 E4 u m3 u) (km u ?_)))))))
     obtain⟨aB,cy,cz⟩:=ob cs
     refine ki underlying122 J8 (b7.mono ((((R.trans O).trans T).trans aa.le).trans aq) ay) cy fun cA cB dW cC cD=>?_
     obtain⟨rfl,dX,dY⟩:=cC
     have cE:E9 _ cA cB [sv aB.Text,V6 aB.At]:=cD
     refine kv (c9 a3c u) (kh (B6 E4 u (cE 1 _ u)) (kv (H2 u u) (km u (kv (H2 u u) (kv (H2 u u) (kv (x8 u) (B7 ?_)))))))
     rintro dZ ⟨cF,bl,aO⟩
     refine qr (mv u (lv (a3S u u) (nq (D4 cz u (fun cG aZ=>?_) (fun cG aZ=>?_)))))
     ·refine j3 (mv u (mv u (lb C9 (V6 (A1 (aN-(A1 ((A1 (S.At-aB.At))-((ab:Nat):Int)))))) [V6 (A1 (aN-(A1 ((A1 (S.At-aB.At))-((ab:Nat):Int)))))] (A1 (aN-(A1 ((A1 (S.At-aB.At))-((ab:Nat):Int))))) underlying51 E4 ⟨u,(s6 _)⟩ bl fun ea eb ec bm cH cI=>?_)))
      obtain⟨ed,cJ,cK⟩:=ob aZ
      refine lp underlying51 E4 (aM.mono (aO.trans bm)) cH cJ cI.f6 fun cL cM cN ee cO cP cQ cR=>(av u (nb (qg (lv (A3 u u (B5 hi180 (b7.max aJ))) (mv u (i8 ?_))))))
      cases oi cK
      exact qd ⟨cL,cM,cN,cO,u,cR.f6.f6.f6.f6.f6.s,(((aq.trans aO).trans bm).trans cP),cQ⟩
     refine j5 (x9 (qg (lv (A3 u u (B5 hi180 (b7.max aJ))) (mv u (i8 ?_)))))
     cases oi aZ
     exact qd ⟨ae,af,ag,cF,u,bl,(aq.trans aO),(aM.mono aO)⟩
    rintro aY _ cp cS ⟨ae,af,ag,ap,rfl,aL,aq,aM⟩
    subst cS
    refine sr (lv (s7 u u) (ns (C1 u (c6 (by omega)) (w8 (g6 (g6 (l5 ?_)))))))
    cases oi cn
    exact qd ⟨ae,af,ag,ap,u,aL,aq,aM⟩
   rintro _ ef ⟨am,an,ao,aK,rfl,cT,ar,cU⟩
   refine qr (mv u (mv u (lb (G0 C9) (V3 am an ao) [V3 am an ao] bj underlying243 a1i ⟨_,_,_,u,cU⟩ cT fun eg eh ei au cV cW=>?_)))
   obtain⟨ej,cX,cY⟩:=ob cl
   refine lp underlying243 a1i (b7.mono (((T.trans aa.le).trans ar).trans au) aW) cV cX cW.f5 fun cZ da db ek el aC dc aP=>(av u (nq (j3 (mv u (mv u (fl W2 u H3 m3 aP u (fl a3b u H3 m5 aP u (fl S6 u E4 m4 aP u ?_))))))))
   obtain⟨em,dd,de⟩:=ob cY
   have bn:=aP.f2
   refine lk c1z (a1K F bn.e1 (b7.mono ((((((((y.le.trans V.le).trans R).trans O).trans T).trans aa.le).trans ar).trans au).trans aC) aQ) (b7.mono ((((((((y.le.trans V.le).trans R).trans O).trans T).trans aa.le).trans ar).trans au).trans aC) aR) (b7.mono ((((((((y.le.trans V.le).trans R).trans O).trans T).trans aa.le).trans ar).trans au).trans aC) bc) (b7.mono ((((((((y.le.trans V.le).trans R).trans O).trans T).trans aa.le).trans ar).trans au).trans aC) bd) be bh bf dd) ?_
   rintro en eo ⟨df,rfl,ba,ep⟩
   have dg:=(bn.c1 ba).t7
   refine lv (y4 u u) (av u (nb (qg (lv (A3 u u (B5 hi110 (b7.max (ay.mono R)))) (mv u (i8 ?_))))))
   cases oi de
   exact qd ⟨cZ,da,db,df,u,dg.f1.f4.f4.f3.s,((((((O.trans T).trans aa.le).trans ar).trans au).trans aC).trans ba.le),(dc.mono ba.le),(s6 _)⟩
  rintro ad _ bO dh ⟨W,X,Y,ak,rfl,aH,O,aW,bg⟩
  subst dh
  refine sr (lv (s7 u u) (ns (C1 u (c6 (by omega)) (w8 (g6 (g6 (l5 ?_)))))))
  cases oi bM
  exact qd ⟨W,X,Y,ak,u,aH.s,O,aW,bg⟩
 rintro _ eq ⟨aD,aE,aF,aG,rfl,bb,es,di,et⟩
 refine qr (mv u (fl a0Q u E4 m1 bb u ?_))
 obtain⟨eu,dj,dk⟩:=ob bK
 refine lk c6B (b0G F bb.enter0 di bq dj) ?_
 rintro ev ew ⟨ex,eA,eB,dl,rfl,dm,dn⟩
 have dp:=(bb.c0 dm).t4
 refine lv (q7 underlying51 u dn) (lv (b5U u u) (mv u (lv (U9 u u) ?_)))
 obtain⟨eC,dq,dt⟩:=ob dk
 have bo:=oi dq
 refine lv (b9H u (congrArg (Value.int .i64) bo)) (nq (l3 ?_))
 cases oi dt
 exact ey results169 ⟨dl,u,dp.s,(c1o bo (s6 _))⟩

theorem a7O (F:Nat): ∀{w:World} {K:F0} {g1:Nat} {a:Option Addr} {b c:Nat} {d:Option Addr} {f i:Nat} {k:Option Addr} {l m:Nat} {o:Option Addr} {q s:Nat} {O:Option Addr} {R S:Nat} {G:Option Addr} {H I:Nat} {x:Option Addr} {y A:Nat} {B:Option Addr} {C D:Nat} {q0:S8} {q1:r5} {q2:y5} {r:Int} (hS:SH w K (List.flatMap E5.gs [u9 g1 [V3 a b c,V3 d f i,V3 k l m,V3 o q s] 160]) w K [u9 g1 [V3 a b c,V3 d f i,V3 k l m,V3 o q s] 160]) (W:b7 D8 K a b c q0.c_.Stops) (X:b7 L0 K d f i q0.c_.Syns) (aa:b7 F8 K k l m q0.s_.Docs) (ab:b7 B8 K o q s q0.s_.Entries) (bM:i7 q1.Kind) (af:q1.Field.length≤maxLen) (aC:b7 D8 K O R S q1.Words) (aK:i7 q1.From) (aX:i7 q1.To) (aj:b7 F3 K G H I q1.Kids) (ac:i7 q2.Id) (ak:b7 K5 K x y A q2.Fields) (am:b7 M5 K B C D q2.Nums) (hD: ¬dr.D) (hm:D9 F q0 q1 q2=some r),
  Calls prog 104 #[.pointer (some ⟨g1,0,none⟩),.agg #[V6 q1.Kind,sv q1.Field,V3 O R S,V6 q1.From,V6 q1.To,V3 G H I],.agg #[V6 q2.Id,V3 x y A,V3 B C D]] w fun e w'=>∃K',e= .returned (V6 r)∧SH w K (List.flatMap E5.gs [u9 g1 [V3 a b c,V3 d f i,V3 k l m,V3 o q s] 160]) w' K' [u9 g1 [V3 a b c,V3 d f i,V3 k l m,V3 o q s] 160]∧i7 r:=by
 induction F with
 | zero=>intros;rename_i hm;rw [D9] at hm;cases hm
 | succ F ih=>
  intro w K g1 a b c d f i k l m o q s O R S G H I x y A B C D q0 q1 q2 r hS W X aa ab bM af aC aK aX aj ac ak am hD hm
  rw [D9] at hm
  refine ci func104 u ntmps104 (sr (bx u hS fun J hn cU=>?_))
  have cV:SH _ _ _ _ _ [u9 J [V6 q1.Kind,sv q1.Field,V3 O R S,V6 q1.From,V6 q1.To,V3 G H I] 33,_]:=cU
  refine bx u cV fun T ho cW=>?_
  have U:SH _ _ _ _ _ [u9 T [V6 q2.Id,V3 x y A,V3 B C D] 67,_,_]:=cW
  refine lv (N4 u) (P6 (fl a5Y u E4 m1 U u (nq (j7 (sr (lv (A6 u u) (av u (nq (P1 u (fun aY=>?_) (fun aY=>?_))))))))))
  ·have aZ:=Z8 aY hm
   refine sr (lv (x8 (v:=V6 100) u) (nq (l3 (j6 (g8 ?_)))))
   cases oi aZ
   exact ey results104 ⟨K,u,U.s,(by decide :i7 100)⟩
  have aZ:=Z7 aY hm
  refine sr (lv (A6 u u) (av u (nq (D4 aZ u (fun cX ba=>?_) (fun cX ba=>?_)))))
  ·refine p9 ?_
   have aB:=U.drew
   refine j_0 (fun w'=>G8 K w'∧A9 J [V6 q1.Kind,sv q1.Field,V3 O R S,V6 q1.From,V6 q1.To,V3 G H I] w'∧A9 g1 [V3 a b c,V3 d f i,V3 k l m,V3 o q s] w'∧A9 T [V6 q2.Id,V3 x y A,V3 B C D] w') 16 [] mixed ⟨aB.hasK kr,aB.hasObj m1,aB.hasObj m2,aB.hasObj m0⟩ (jv 0 u (i5 u) (jv 1 u (c9 W2 u) (jh 2 u (fun _ h=>A8 H3 u u h.2.1) (jv 3 u (i5 u) (jv 4 u (B3 u) (jv 5 u (c9 b2r u) (jh 6 u (fun _ h=>B4 (ds:=[V3 a b c,V3 d f i]) E2 u u u h.2.2.1) (jv 7 u (c9 Z9 u) (jh 8 u (fun _ h=>A8 T1 u u h.2.1) ?_)))))))))
   obtain⟨cY,cZ,da⟩:=ob ba
   refine ji 9 u underlying23 H3 aC cZ fun db dc hp dd de=>?_
   obtain⟨rfl,df⟩:=dd
   have dg:E9 _ db dc [sv cY]:=de
   refine jh 10 u (fun _ h=>T7 H3 u (dg 0 _ u) h.1) (jv 12 u (c9 S6 u) (jh 13 u (fun _ h=>A8 E4 u u h.2.2.2) (j1 11 u ?_)))
   obtain⟨hq,dh,di⟩:=ob da
   refine lk c7b (b3a F aB.enter0 W X df dh) ?_
   rintro hr ht ⟨hu,rfl,aq,dj⟩
   have aD:=(aB.c0 aq).t3
   refine R7 ⟨aD.hasK aq.le,aD.hasObj m1,aD.hasObj m2,aD.hasObj m0⟩ (j1 14 u ?_)
   obtain⟨hv,dk,dl⟩:=ob di
   have bN:=aD.f2
   refine lk c1z (a1K F bN.e1 (W.mono aq.le) (X.mono aq.le) (aa.mono aq.le) (ab.mono aq.le) af dj ac dk) ?_
   rintro hw hx ⟨dm,rfl,bO,dn⟩
   have aE:=(bN.c1 bO).t3
   refine R7 ⟨aE.hasK (aq.le.trans bO.le),aE.hasObj m2,aE.hasObj m0,aE.hasObj m1⟩ (jv 15 u (x8 u) (jd (l4 (l3 (j6 (g8 ?_))))))
   cases oi dl
   exact ey results104 ⟨dm,u,aE.s,dn⟩
  refine sr (lv (A6 u u) (av u (nq (D4 ba u (fun dp bb=>?_) (fun dp bb=>?_)))))
  ·refine sr (mv u (lv (n8 (ds:=[V6 q1.Kind,sv q1.Field,V3 O R S,V6 q1.From,V6 q1.To,V3 G H I]) C6 u m1 U u u) (lv (n8 (ds:=[V6 q2.Id,V3 x y A,V3 B C D]) F7 u m0 U u u) ?_)))
   obtain⟨hy,dq,dt⟩:=ob bb
   have bP:=U.f2
   refine lk c57 (a7n F bP.e1 W X aa ab bM af aC aK aX aj ac ak am hD dq) ?_
   rintro hz hA ⟨du,rfl,dv,dw⟩
   have dx:=(bP.c1 dv).t3
   refine av u (nq (l3 (j6 (g8 ?_))))
   cases oi dt
   exact ey results104 ⟨du,u,dx.s,dw⟩
  refine sr (lv (A6 u u) (av u (nq (D4 bb u (fun dy bc=>?_) (fun dy bc=>?_)))))
  ·refine sr (lv (N4 u) (ns (p9 ?_)))
   have bd:=U.drew
   refine j_0 (fun w'=>G8 K w'∧A9 J [V6 q1.Kind,sv q1.Field,V3 O R S,V6 q1.From,V6 q1.To,V3 G H I] w') 8 [] mixed ⟨bd.hasK kr,bd.hasObj m1⟩ (jv 0 u (i5 u) (jv 1 u (B3 u) (jv 2 u (c9 a5L u) (jv 3 u (c9 W2 u) (jh 4 u (fun _ h=>A8 H3 u u h.2) (jv 7 u (r_m u) (j1 5 u ?_)))))))
   obtain⟨dz,dA,dB⟩:=ob bc
   have bQ:=bd.f2
   refine lk c4b (a00 F bQ.e1 W X aa ab af dA) ?_
   rintro hB hC ⟨dC,dD,dE,be,rfl,ar,aL⟩
   have bf:=(bQ.c1 ar).t4
   refine R7 ⟨bf.hasK ar.le,bf.hasObj m3⟩ (jv 6 u (q7 underlying23 u aL) (jd (l4 ?_)))
   obtain⟨bR,dF,dG⟩:=ob dB
   refine l6 (IW w K (List.flatMap E5.gs [u9 g1 [V3 a b c,V3 d f i,V3 k l m,V3 o q s] 160]) be [(0,pt g1),(7,V6 bR)] [u9 g1 [V3 a b c,V3 d f i,V3 k l m,V3 o q s] 160] (i7 bR)) ?_ ?_
   ·refine j7 ?_
    obtain⟨hE,dH,dI⟩:=ob dF
    have dJ:=bf.f2.f3.f3.sb (sk (sk (sk (sd sz))))
    refine qF (fun (bS:Nat) (aM:Int)=>IW w K (List.flatMap E5.gs [u9 g1 [V3 a b c,V3 d f i,V3 k l m,V3 o q s] 160]) be [(0,pt g1),(4,pt J),(5,pt T),(7,V6 aM),(51,V3 dC dD dE),(52,V6 (dz.length:Int)),(53,V6 ((bS:Nat):Int))] [u9 g1 [V3 a b c,V3 d f i,V3 k l m,V3 o q s] 160,u9 J [V6 q1.Kind,sv q1.Field,V3 O R S,V6 q1.From,V6 q1.To,V3 G H I] 33,u9 T [V6 q2.Id,V3 x y A,V3 B C D] 67] (i7 aM)) dH ⟨be,u,dJ,kr,M1⟩ ?_ ?_
    ·rintro bS aM _ dK hF hi137 dL ⟨bT,rfl,au,ad,aN⟩
     refine sr (lv (s7 u u) (ns (C2 u (b8 (by omega)) (j5 (l4 (p9 (j7 (sr ?_))))))))
     obtain⟨dM,dN,dO⟩:=ob dL
     refine li underlying23 H3 (aL.mono ad) dN fun dP dQ hG dR dS=>?_
     obtain⟨rfl,bU⟩:=dR
     have dT:E9 _ dP dQ [sv dM]:=dS
     refine lv (y7 H3 u au (dT 0 _ u)) (av u (nr (mv u (fl Z9 u T1 m1 au u ?_))))
     obtain⟨dU,dV,dW⟩:=ob dO
     refine li underlying23 H3 (aC.mono (ar.le.trans ad)) dV fun dX dY hH dZ ea=>?_
     obtain⟨rfl,eb⟩:=dZ
     have ec:E9 _ dX dY [sv dU]:=ea
     refine lv (y7 H3 u au (ec 0 _ u)) ?_
     obtain⟨hI,ed,ee⟩:=ob dW
     refine lk c58 (b1V F au.enter0 bU eb ed) ?_
     rintro hJ hK ⟨hL,rfl,aw,ef⟩
     have bg:=(au.c0 aw).t3
     refine av u (nr (mv u (fl a0Q u E4 m1 bg u ?_)))
     obtain⟨hM,eg,eh⟩:=ob ee
     refine lk a3H (C3 F bg.enter0 ef M1 aK eg) ?_
     rintro hN hO ⟨ei,rfl,ax⟩
     have aF:=(bg.c0 ax).t3
     refine nq (D4 eh u (fun ej bh=>?_) (fun ej bh=>?_))
     ·refine j3 (mv u (mv u (fl W2 u H3 m1 aF u (mv u (fl S6 u E4 m2 aF u ?_)))))
      obtain⟨hP,ek,el⟩:=ob bh
      refine lk c1z (a1K F aF.e1 (b7.mono (((ar.le.trans ad).trans aw.le).trans ax.le) W) (b7.mono (((ar.le.trans ad).trans aw.le).trans ax.le) X) (b7.mono (((ar.le.trans ad).trans aw.le).trans ax.le) aa) (b7.mono (((ar.le.trans ad).trans aw.le).trans ax.le) ab) af bU ac ek) ?_
      rintro hQ hR ⟨em,rfl,bV,hT⟩
      have en:=(aF.c1 bV).t3
      refine mv u (lv (H2 u u) (lv (U9 u u) ?_))
      obtain⟨hU,bW,eo⟩:=ob el
      refine lv (a4i u u bW) (lv (b9J u u) (av u (nb (qg (lv (A3 u u (B5 hi137 (b7.max aL))) (mv u (i8 ?_)))))))
      cases oi eo
      exact qd ⟨em,u,en,(((ad.trans aw.le).trans ax.le).trans bV.le),(b9D aN (a3R bW))⟩
     refine j5 (x9 (qg (lv (A3 u u (B5 hi137 (b7.max aL))) (mv u (i8 ?_)))))
     cases oi bh
     exact qd ⟨ei,u,aF,((ad.trans aw.le).trans ax.le),aN⟩
    rintro aM _ dK ep ⟨bT,rfl,au,ad,aN⟩
    subst ep
    refine sr (lv (s7 u u) (ns (C1 u (c6 (by omega)) (w8 (g6 (g6 (l5 ?_)))))))
    cases oi dI
    exact qd ⟨bT,u,au.s,ad,aN⟩
   rintro _ hV ⟨eq,rfl,es,hW,et⟩
   refine qr (mv u (av u (nq (l3 (j6 (g8 ?_))))))
   cases oi dG
   exact ey results104 ⟨eq,u,es,et⟩
  refine sr (lv (A6 u u) (av u (nq (D4 bc u (fun eu bi=>?_) (fun eu bi=>?_)))))
  ·refine p9 (p9 ?_)
   have bj:=U.drew
   refine j_0 (fun w'=>G8 K w'∧A9 J [V6 q1.Kind,sv q1.Field,V3 O R S,V6 q1.From,V6 q1.To,V3 G H I] w') 8 [] mixed ⟨bj.hasK kr,bj.hasObj m1⟩ (jv 0 u (i5 u) (jv 1 u (B3 u) (jv 2 u (c9 a5L u) (jv 3 u (c9 W2 u) (jh 4 u (fun _ h=>A8 H3 u u h.2) (jv 7 u (r_m u) (j1 5 u ?_)))))))
   obtain⟨bX,ev,ew⟩:=ob bi
   have bY:=bj.f2
   refine lk c4b (a00 F bY.e1 W X aa ab af ev) ?_
   rintro hX hY ⟨bZ,ca,cb,bk,rfl,ay,bl⟩
   have bm:=(bY.c1 ay).t4
   refine R7 ⟨bm.hasK ay.le,bm.hasObj m3⟩ (jv 6 u (q7 underlying23 u bl) (jd (l4 ?_)))
   obtain⟨ex,eA,aO⟩:=ob ew
   refine l6 (IE ex w K (List.flatMap E5.gs [u9 g1 [V3 a b c,V3 d f i,V3 k l m,V3 o q s] 160]) bk [(0,pt g1)] [u9 g1 [V3 a b c,V3 d f i,V3 k l m,V3 o q s] 160]) ?_ ?_
   ·refine j7 ?_
    obtain⟨hZ,eB,cc⟩:=ob eA
    have eC:=bm.f2.f3.f3.sb (sk (sk (sk (sd sz))))
    refine qf (fun (bn:Nat) (cd:Unit)=>IV w K (List.flatMap E5.gs [u9 g1 [V3 a b c,V3 d f i,V3 k l m,V3 o q s] 160]) bk [(0,pt g1),(4,pt J),(5,pt T),(89,V3 bZ ca cb),(90,V6 (bX.length:Int)),(91,V6 ((bn:Nat):Int))] [u9 g1 [V3 a b c,V3 d f i,V3 k l m,V3 o q s] 160,u9 J [V6 q1.Kind,sv q1.Field,V3 O R S,V6 q1.From,V6 q1.To,V3 G H I] 33,u9 T [V6 q2.Id,V3 x y A,V3 B C D] 67]) eB ⟨bk,u,eC,kr⟩ ?_ ?_
    ·rintro bn cd _ eD ia hi232 eE eF ⟨bo,rfl,az,ag⟩
     refine sr (lv (s7 u u) (ns (C2 u (b8 (by omega)) (j5 (l4 (p9 (j7 (sr ?_))))))))
     obtain⟨ce,eG,eH⟩:=ob eE
     refine li underlying23 H3 (bl.mono ag) eG fun eI eJ ib eK eL=>?_
     obtain⟨rfl,cf⟩:=eK
     have eM:E9 _ eI eJ [sv ce]:=eL
     refine lv (y7 H3 u az (eM 0 _ u)) (av u (ns ?_))
     obtain⟨eN,eO,eP⟩:=ob eH
     refine l6 (IV w K (List.flatMap E5.gs [u9 g1 [V3 a b c,V3 d f i,V3 k l m,V3 o q s] 160]) bo [(0,pt g1),(4,pt J),(5,pt T),(89,V3 bZ ca cb),(90,V6 (bX.length:Int)),(91,V6 ((bn:Nat):Int)),(111,.bool eN)] [u9 g1 [V3 a b c,V3 d f i,V3 k l m,V3 o q s] 160,u9 J [V6 q1.Kind,sv q1.Field,V3 O R S,V6 q1.From,V6 q1.To,V3 G H I] 33,u9 T [V6 q2.Id,V3 x y A,V3 B C D] 67]) ?_ ?_
     ·refine j3 (fl Z9 u T1 m1 az u ?_)
      obtain⟨eQ,eR,eS⟩:=ob eO
      refine li underlying23 H3 (aC.mono (ay.le.trans ag)) eR fun eT eU ic eV eW=>?_
      obtain⟨rfl,eX⟩:=eV
      have eY:E9 _ eT eU [sv eQ]:=eW
      refine lv (y7 H3 u az (eY 0 _ u)) (mv u ?_)
      obtain⟨ie,eZ,fb⟩:=ob eS
      refine lk c59 (b1U F az.enter0 eX cf eZ) ?_
      rintro ig ii ⟨fc,rfl,aA⟩
      have aG:=(az.c0 aA).t3
      refine mv u (bt fb (fun V bp=>?_) (fun V bp=>?_))
      ·refine lg V (i5 u) (lg V (c9 W2 u) (lg V (u6 H3 u m1 aG u) (lg V (i5 u) (lg V (c9 S6 u) (lg V (u6 E4 u m2 aG u) ?_)))))
       obtain⟨ij,fd,fe⟩:=ob bp
       refine A0 (wg u u V) u (z7 (vs:=[pt g1,sv q1.Field,sv ce,V6 q2.Id]) c1A u) (a1J F aG.e1 (W.mono ((ay.le.trans ag).trans aA.le)) (X.mono ((ay.le.trans ag).trans aA.le)) (aa.mono ((ay.le.trans ag).trans aA.le)) (ab.mono ((ay.le.trans ag).trans aA.le)) af cf ac fd) ?_
       rintro ik il ⟨im,io,ip,fg,rfl,cg,fh⟩
       refine⟨_,u,?_⟩
       have fi:=(aG.c1 cg).t3
       refine lg V (q7 underlying51 u fh) (lg V (F9 u u) (lv (o0 u V u) (i8 ?_)))
       cases oi fe
       exact qd ⟨fg,u,fi,(aA.le.trans cg.le)⟩
      iterate 9 refine lu V ?_
      refine lv (J6 u V u) (i8 ?_)
      cases oi bp
      exact qd ⟨fc,u,aG,aA.le⟩
     rintro _ iq ⟨ch,rfl,cj,fj⟩
     refine l4 (D4 eP u (fun fk bq=>?_) (fun fk bq=>?_))
     ·refine sr (lv (x8 (v:=V6 100) u) (nq (l3 (j6 (g8 (g8 ?_))))))
      cases oi bq
      cases eF _ u
      refine j6 (g8 ?_)
      cases oi cc
      refine g8 (j6 (g8 ?_))
      cases oi aO
      exact ey results104 ⟨ch,u,cj.s,(by decide :i7 100)⟩
     refine j5 (x9 (qg (lv (A3 u u (B5 hi232 (b7.max bl))) (mv u (i8 ?_)))))
     cases oi bq
     exact qd ⟨_,u,ch,u,cj,(ag.trans fj)⟩
    rintro cd _ eD fm ⟨bo,rfl,az,ag⟩
    subst fm
    refine sr (lv (s7 u u) (ns (C1 u (c6 (by omega)) (w8 (g6 (g6 (l5 ?_)))))))
    cases oi cc
    exact qd ⟨_,bo,u,u,az.s,ag⟩
   rintro _ ir ⟨it,fn,rfl,rfl,fo,iu⟩
   have aO:=F6 aO
   refine qr (lv (N4 u) (nq (l3 (j6 (g8 ?_)))))
   cases oi aO
   exact ey results104 ⟨fn,u,fo,M1⟩
  refine sr (lv (A6 u u) (av u (nq (D4 bi u (fun fp br=>?_) (fun fp br=>?_)))))
  ·refine p9 (p9 (E1 mixed (by kernel_rfl) U (kh (J7 (ds:=[V6 q2.Id,V3 x y A,V3 B C D]) F7 u m0 u u) (kv (c9 W2 u) (kh (z6 H3 u m1 u) ?_)))))
   obtain⟨iv,ck,fq⟩:=ob br
   refine kd c39 (fun _ _ fr cl=>(a5q F) fr.enter0 ac (ak.mono cl) (am.mono cl) af ck) ?_
   obtain⟨_,_,_,⟨_,_,_,fs⟩,_⟩:=(a5q F) U.enter0 ac ak am af ck []
   refine kv (c9 a0Q u) (kh (z6 E4 u m1 u) (kv (c9 a35 u) (kh (z6 E4 u m1 u) ?_)))
   obtain⟨iw,ft,fu⟩:=ob fq
   refine kc a3H (fun _ _ fv ix=>(C3 F) fv.enter0 fs aK aX ft) (B7 ?_)
   rintro iy ⟨cm,cn,iz⟩
   refine l4 (D4 fu u (fun fw bs=>?_) (fun fw bs=>?_))
   ·refine sr (lv (x8 (v:=V6 100) u) (nq (rr (j6 (g8 ?_)))))
    cases oi bs
    exact ey results104 ⟨cm,u,cn.s,(by decide :i7 100)⟩
   refine j5 (qr (lv (N4 u) (nq (l3 (j6 (g8 ?_))))))
   cases oi bs
   exact ey results104 ⟨cm,u,cn.s,M1⟩
  refine sr (lv (A6 u u) (av u (nq (D4 br u (fun fx bu=>?_) (fun fx bu=>?_)))))
  ·refine p9 ?_
   have aP:=U.drew
   refine wh1 (fun w'=>G8 K w'∧A9 J [V6 q1.Kind,sv q1.Field,V3 O R S,V6 q1.From,V6 q1.To,V3 G H I] w'∧A9 T [V6 q2.Id,V3 x y A,V3 B C D] w') (fun w'=>True) 11 [] mixed ⟨aP.hasK kr,aP.hasObj m1,aP.hasObj m0⟩ (fun _=>trivial) (gt (c9 a0Q u) (gh (fun _ h=>A8 E4 u u h.2.1) (gt (i5 u) (gt (c9 T6 u) (gh (fun _ h=>A8 a4H u u h.2.1) ?_)))))
   obtain⟨an,fy,fz⟩:=ob bu
   refine gi underlying31 C6 aj fy fun fA fB iA fC fD=>?_
   obtain⟨cp,cq,cr,ct,cu,cv,rfl,fE,fF,fG,fH,fI,fJ⟩:=Q6 fC
   have fK:E9 _ fA fB [V6 an.Kind,sv an.Field,V3 cp cq cr,V6 an.From,V6 an.To,V3 ct cu cv]:=fD
   refine gh (fun _ h=>a5C (cs:=[V6 an.Kind,sv an.Field,V3 cp cq cr,V6 an.From,V6 an.To,V3 ct cu cv]) C6 u fK u h.1) (gh (fun _ h=>B4 (ds:=[V6 q2.Id,V3 x y A,V3 B C D]) F7 u u u h.2.2) (gn ?_))
   obtain⟨iB,fL,fM⟩:=ob fz
   have cw:=aP.f2
   refine lk b6j (ih cw.e1 W X aa ab fE fF fG fH fI fJ ac ak am hD fL) ?_
   rintro iC iD ⟨fN,rfl,cx,iE⟩
   have aQ:=(cw.c1 cx).t3
   refine i8 (qh ⟨aQ.hasK cx.le,aQ.hasObj m2,aQ.hasObj m1⟩ (fun _=>trivial) (gt (U9 u u) (gt (x8 u) (gd' (l4 (l3 (j6 (g8 ?_))))))))
   cases oi fM
   exact ey results104 ⟨fN,u,aQ.s,(s6 _)⟩
  refine sr (lv (A6 u u) (av u (nq (D4 bu u (fun fO bv=>?_) (fun fO bv=>?_)))))
  ·refine p9 (p9 ?_)
   have aR:=U.drew
   refine wh1 (fun w'=>G8 K w'∧A9 J [V6 q1.Kind,sv q1.Field,V3 O R S,V6 q1.From,V6 q1.To,V3 G H I] w'∧A9 T [V6 q2.Id,V3 x y A,V3 B C D] w') (fun w'=>True) 8 [] mixed ⟨aR.hasK kr,aR.hasObj m1,aR.hasObj m0⟩ (fun _=>trivial) (gt (i5 u) (gt (c9 T6 u) (gh (fun _ h=>A8 a4H u u h.2.1) ?_)))
   obtain⟨ao,fP,fQ⟩:=ob bv
   refine gi underlying31 C6 aj fP fun fR fS iF fT fU=>?_
   obtain⟨cy,cz,cA,cB,cC,cD,rfl,fV,fW,fX,fY,fZ,ga⟩:=Q6 fT
   have gb:E9 _ fR fS [V6 ao.Kind,sv ao.Field,V3 cy cz cA,V6 ao.From,V6 ao.To,V3 cB cC cD]:=fU
   refine gh (fun _ h=>a5C (cs:=[V6 ao.Kind,sv ao.Field,V3 cy cz cA,V6 ao.From,V6 ao.To,V3 cB cC cD]) C6 u gb u h.1) (gh (fun _ h=>B4 (ds:=[V6 q2.Id,V3 x y A,V3 B C D]) F7 u u u h.2.2) (gn ?_))
   obtain⟨iG,gc,gd⟩:=ob fQ
   have cE:=aR.f2
   refine lk b6j (ih cE.e1 W X aa ab fV fW fX fY fZ ga ac ak am hD gc) ?_
   rintro iH iI ⟨cF,rfl,ah,iJ⟩
   have aH:=(cE.c1 ah).t3
   refine i8 (qh ⟨aH.hasK ah.le,aH.hasObj m2,aH.hasObj m1⟩ (fun _=>trivial) (gt (F9 u u) (gd' (l4 (D4 gd u (fun ge bz=>?_) (fun ge bz=>?_))))))
   ·refine sr (lv (N4 u) (nq (rr (j6 (g8 ?_)))))
    cases oi bz
    exact ey results104 ⟨cF,u,aH.s,M1⟩
   refine j5 (qs ?_)
   have aI:=aH.drew
   refine wh1 (fun w'=>G8 cF w'∧A9 J [V6 q1.Kind,sv q1.Field,V3 O R S,V6 q1.From,V6 q1.To,V3 G H I] w'∧A9 T [V6 q2.Id,V3 x y A,V3 B C D] w') (fun w'=>True) 8 [] mixed ⟨aI.hasK kr,aI.hasObj m2,aI.hasObj m1⟩ (fun _=>trivial) (gt (i5 u) (gt (c9 T6 u) (gh (fun _ h=>A8 a4H u u h.2.1) ?_)))
   obtain⟨ap,gg,gj⟩:=ob bz
   refine gi underlying31 C6 (aj.mono ah.le) gg fun gk gl iK gm go=>?_
   obtain⟨cG,cH,cI,cJ,cK,cL,rfl,gp,gq,gr,gv,gw,gx⟩:=Q6 gm
   have gy:E9 _ gk gl [V6 ap.Kind,sv ap.Field,V3 cG cH cI,V6 ap.From,V6 ap.To,V3 cJ cK cL]:=go
   refine gh (fun _ h=>a5C (cs:=[V6 ap.Kind,sv ap.Field,V3 cG cH cI,V6 ap.From,V6 ap.To,V3 cJ cK cL]) C6 u gy u h.1) (gh (fun _ h=>B4 (ds:=[V6 q2.Id,V3 x y A,V3 B C D]) F7 u u u h.2.2) (gn ?_))
   obtain⟨iL,gz,gA⟩:=ob gj
   refine lk b6j (ih aI.e1 (W.mono ah.le) (X.mono ah.le) (aa.mono ah.le) (ab.mono ah.le) gp gq gr gv gw gx ac (ak.mono ah.le) (am.mono ah.le) hD gz) ?_
   rintro iM iN ⟨gB,rfl,cM,gC⟩
   have aS:=(aI.c1 cM).t3
   refine i8 (qh ⟨aS.hasK cM.le,aS.hasObj m2,aS.hasObj m1⟩ (fun _=>trivial) (gt (x8 u) (gd' (l4 (l3 (j6 (g8 ?_)))))))
   cases oi gA
   exact ey results104 ⟨gB,u,aS.s,gC⟩
  refine j5 (x9 (qr (lv (N4 u) (P6 (fl T6 u a4H m1 U u (lv (q7 underlying31 u aj) (lv (r_m u) (nq ?_))))))))
  obtain⟨gD,gE,aT⟩:=ob bv
  refine l6 (fun E' w'=>∃aU aV,gD= .inl aU∧E'=[(0,pt g1),(13,V6 aU)]∧SH w K (List.flatMap E5.gs [u9 g1 [V3 a b c,V3 d f i,V3 k l m,V3 o q s] 160]) w' aV [u9 g1 [V3 a b c,V3 d f i,V3 k l m,V3 o q s] 160]∧I9 K aV∧i7 aU) ?_ ?_
  ·refine j7 ?_
   obtain⟨iO,gF,cN⟩:=ob gE
   refine qf (fun (bA:Nat) (aJ:Int)=>IW w K (List.flatMap E5.gs [u9 g1 [V3 a b c,V3 d f i,V3 k l m,V3 o q s] 160]) K [(0,pt g1),(4,pt J),(5,pt T),(13,V6 aJ),(154,V3 G H I),(155,V6 (q1.Kids.length:Int)),(156,V6 ((bA:Nat):Int))] [u9 g1 [V3 a b c,V3 d f i,V3 k l m,V3 o q s] 160,u9 J [V6 q1.Kind,sv q1.Field,V3 O R S,V6 q1.From,V6 q1.To,V3 G H I] 33,u9 T [V6 q2.Id,V3 x y A,V3 B C D] 67] (i7 aJ)) gF ⟨K,u,U.f1.f2,kr,M1⟩ ?_ ?_
   ·rintro bA aJ _ gG iP hi446 gH gI ⟨cO,rfl,aW,ae,cP⟩
    refine sr (lv (s7 u u) (ns (C2 u (b8 (by omega)) (j5 (l4 (p9 (j7 (sr ?_))))))))
    obtain⟨Y,gJ,gK⟩:=ob gH
    refine li underlying31 C6 (aj.mono ae) gJ fun gL gM iQ gN gO=>?_
    obtain⟨bB,bC,bD,bE,bF,bG,rfl,gP,gQ,gR,gS,gT,gU⟩:=Q6 gN
    have gV:E9 _ gL gM [V6 Y.Kind,sv Y.Field,V3 bB bC bD,V6 Y.From,V6 Y.To,V3 bE bF bG]:=gO
    refine lv (F5 C6 u aW gV u) (al C6 aW fun gW iR gX=>?_)
    have gY:SH _ _ _ _ _ [u9 gW [V6 0,sv [],V3 none 0 0,V6 0,V6 0,V3 none 0 0] 33,_,_,_]:=gX
    refine lw [V6 Y.Kind,sv Y.Field,V3 bB bC bD,V6 Y.From,V6 Y.To,V3 bE bF bG] C6 gY fun iS bH=>(nr (mv u (lv (n8 (ds:=[V6 Y.Kind,sv Y.Field,V3 bB bC bD,V6 Y.From,V6 Y.To,V3 bE bF bG]) C6 u m0 bH u u) (lv (n8 (ds:=[V6 q2.Id,V3 x y A,V3 B C D]) F7 u m3 bH u u) ?_))))
    obtain⟨gZ,hb,hc⟩:=ob gK
    have cQ:=bH.f1
    refine lk b6j (ih cQ.e1 (W.mono ae) (X.mono ae) (aa.mono ae) (ab.mono ae) gP gQ gR gS gT gU ac (ak.mono ae) (am.mono ae) hD hb) ?_
    rintro iT iU ⟨bI,rfl,cR,iV⟩
    have bJ:=(cQ.c1 cR).t4
    refine av u (ns (p9 ?_))
    obtain⟨hd,he,hf⟩:=ob hc
    refine l6 (IV w K (List.flatMap E5.gs [u9 g1 [V3 a b c,V3 d f i,V3 k l m,V3 o q s] 160]) bI [(0,pt g1),(4,pt J),(5,pt T),(13,V6 aJ),(16,V6 gZ),(154,V3 G H I),(155,V6 (q1.Kids.length:Int)),(156,V6 ((bA:Nat):Int)),(170,.bool hd)] [u9 g1 [V3 a b c,V3 d f i,V3 k l m,V3 o q s] 160,u9 J [V6 q1.Kind,sv q1.Field,V3 O R S,V6 q1.From,V6 q1.To,V3 G H I] 33,u9 T [V6 q2.Id,V3 x y A,V3 B C D] 67]) ?_ ?_
    ·refine j3 (mv u (lv (A6 u u) (mv u (bt he (fun ai bK=>?_) (fun ai bK=>?_)))))
     ·refine lg ai (c9 a5Y u) (lg ai (u6 E4 u m2 bJ u) (lg ai (A6 u u) (lv (o0 u ai u) (i8 ?_))))
      cases oi bK
      exact qd ⟨bI,u,bJ.s,kr⟩
     refine lu ai (lu ai (lu ai (lv (J6 u ai u) (i8 ?_))))
     cases oi bK
     exact qd ⟨bI,u,bJ.s,kr⟩
    rintro _ iW ⟨cS,rfl,cT,hg⟩
    refine l4 (D4 hf u (fun hh bL=>?_) (fun hh bL=>?_))
    ·refine sr (lv (N4 u) (nq (rr (j6 (g8 (g8 ?_))))))
     cases oi bL
     cases gI _ u
     refine j6 (g8 ?_)
     cases oi cN
     refine g8 ?_
     cases oi aT
     exact ey results104 ⟨cS,u,cT.s,M1⟩
    refine j5 (l4 (j3 (mv u (mv u (lv (y4 u u) (av u (nb (qg (lv (A3 u u (B5 hi446 (b7.max aj))) ?_)))))))))
    refine mv u (i8 ?_)
    cases oi bL
    exact qd ⟨_,u,cS,u,cT,((ae.trans cR.le).trans hg),(s6 _)⟩
   rintro aJ _ gG hi ⟨cO,rfl,aW,ae,cP⟩
   subst hi
   refine sr (lv (s7 u u) (ns (C1 u (c6 (by omega)) (w8 (g6 (g6 (l5 ?_)))))))
   cases oi cN
   exact qd ⟨_,cO,u,u,aW.s,ae,cP⟩
  rintro _ iX ⟨aU,aV,rfl,rfl,hj,iY,hk⟩
  have aT:=F6 aT
  refine qr (mv u (av u (nq (l3 ?_))))
  cases oi aT
  exact ey results104 ⟨aV,u,hj,hk⟩

theorem a2k {q0:u5}{q1:A7}{q2:r5}{r:(List B0)}(hS:SH w K [] w K [])(aE:b7 D8 K A a b q0.Stops)(aF:b7 L0 K B c d q0.Syns)(T:b7 F8 K C f i q1.Docs)(aG:b7 B8 K D k l q1.Entries)(aH:i7 q2.Kind)(aI:q2.Field.length≤maxLen)(aJ:b7 D8 K G m n q2.Words)(aK:i7 q2.From)(aL:i7 q2.To)(aM:b7 F3 K H o p q2.Kids)(hG30:a5U C5 0 q L3 w)(hD: ¬dr.D)(hm:Q4 F q0 q1 q2=some r):
  Calls prog 46 #[.agg #[V3 A a b,V3 B c d],.agg #[V3 C f i,V3 D k l],.agg #[V6 q2.Kind,sv q2.Field,V3 G m n,V6 q2.From,V6 q2.To,V3 H o p]] w fun e w'=>∃a_1 n_2 c_3 K',e= .returned (V3 a_1 n_2 c_3)∧SH w K [] w' K' [tail (V3 a_1 n_2 c_3) 45 2]∧b7 E8 K' a_1 n_2 c_3 r:=by
 rw [Q4] at hm
 refine ci func46 u ntmps46 (sr (bx u hS fun am ce aU=>?_))
 have aV:SH _ _ _ _ _ [u9 am [V3 A a b,V3 B c d] 26]:=aU
 refine bx u aV fun an cf aW=>?_
 have aX:SH _ _ _ _ _ [u9 an [V3 C f i,V3 D k l] 30,_]:=aW
 refine bx u aX fun V cg aY=>?_
 have aZ:SH _ _ _ _ _ [u9 V [V6 q2.Kind,sv q2.Field,V3 G m n,V6 q2.From,V6 q2.To,V3 H o p] 33,_,_]:=aY
 refine lv (r_n u) (nr (b0 E8 underlying39 M6 aZ fun ae ch ba s aN af=>(av u (ns (p9 ?_)))))
 obtain⟨bb,bc,bd⟩:=ob hm
 refine l6 (IV w K [] ba [(3,pt am),(4,pt an),(5,pt V),(7,V3 ae 0 0),(21,.bool bb)] [u9 am [V3 A a b,V3 B c d] 26,u9 an [V3 C f i,V3 D k l] 30,u9 V [V6 q2.Kind,sv q2.Field,V3 G m n,V6 q2.From,V6 q2.To,V3 H o p] 33,tail (V3 ae 0 0) 45 2]) ?_ ?_
 ·refine j3 (lv (n8 (ds:=[V3 A a b,V3 B c d]) E2 u m3 af u u) (lv (n8 (ds:=[V3 C f i,V3 D k l]) F2 u m2 af u u) ?_))
  obtain⟨cj,be,bf⟩:=ob bc
  refine lk c1s (a2Z F af.enter0 (aE.mono s) (aF.mono s) (T.mono s) (aG.mono s) be) ?_
  rintro ck cl ⟨bg,rfl,W⟩
  have X:=(af.c0 W).t4
  refine lv (A4 u) (mv u (bt bf (fun I ao=>?_) (fun I ao=>?_)))
  ·refine lu I (lu I (lu I (lv (L8 u I u) (i8 ?_))))
   cases oi ao
   exact qd ⟨bg,u,X.f1.f2.f3,W.le⟩
  refine lg I (n8 (ds:=[V6 q2.Kind,sv q2.Field,V3 G m n,V6 q2.From,V6 q2.To,V3 H o p]) C6 u m1 X u u) ?_
  obtain⟨cm,bh,bi⟩:=ob ao
  refine A0 (wg u u I) u (z7 (vs:=[.agg #[V6 q2.Kind,sv q2.Field,V3 G m n,V6 q2.From,V6 q2.To,V3 H o p]]) c5I u) (b1W F X.enter0 aH aI (aJ.mono (s.trans W.le)) aK aL (aM.mono (s.trans W.le)) (hG30.keep X) bh) ?_
  rintro cn cp ⟨bj,rfl,aO⟩
  refine⟨_,u,?_⟩
  have bk:=(X.c0 aO).t4
  refine lg I (A4 u) (lv (o4 u I u) (i8 ?_))
  cases oi bi
  exact qd ⟨bj,u,bk.f1.f2.f3,(W.le.trans aO.le)⟩
 rintro _ cq ⟨ag,rfl,ah,x⟩
 refine l4 (D4 bd u (fun bl ap=>?_) (fun bl ap=>?_))
 ·refine sr (mv u (av u (nq (rr ?_))))
  cases oi ap
  exact ey results46 ⟨ae,0,0,ag,u,ah.s,(aN.mono x)⟩
 refine j5 (qr (lv (n8 (ds:=[V3 A a b,V3 B c d]) E2 u m0 ah u u) (lv (n8 (ds:=[V3 C f i,V3 D k l]) F2 u m1 ah u u) (lv (D3 (cs:=#[V3 A a b,V3 B c d,V3 C f i,V3 D k l]) c6Y c6Z u (by kernel_rfl)) (bx u ah fun aq cr bm=>?_)))))
 have aP:SH _ _ _ _ _ [u9 aq [V3 A a b,V3 B c d,V3 C f i,V3 D k l] 160,_,_,_,_]:=bm
 refine av u (P6 (fl S5 u a4l m2 aP u (lv (q7 underlying27 u (T.mono (s.trans x))) (lv (r_m u) (nq ?_)))))
 obtain⟨bn,bo,bp⟩:=ob ap
 refine l6 (fun E' w'=>∃Y aa ab ac,E'=[(7,V3 Y aa ab)]∧SH w K [] w' ac [tail (V3 Y aa ab) 45 2]∧I9 ag ac∧b7 E8 ac Y aa ab bn) ?_ ?_
 ·refine j7 ?_
  obtain⟨ct,bq,br⟩:=ob bo
  have bs:=aP.f4.f1.f4.sb (sk (sk (sk (sd (sd sz)))))
  refine qF (fun (aQ:Nat) (ar:(List B0)) E' w'=>∃J O R U,E'=[(5,pt V),(7,V3 J O R),(8,pt aq),(28,V3 C f i),(29,V6 (q1.Docs.length:Int)),(30,V6 ((aQ:Nat):Int))]∧SH w K [] w' U [u9 V [V6 q2.Kind,sv q2.Field,V3 G m n,V6 q2.From,V6 q2.To,V3 H o p] 33,u9 aq [V3 A a b,V3 B c d,V3 C f i,V3 D k l] 160,tail (V3 J O R) 45 2]∧I9 ag U∧b7 E8 U J O R ar) bq ⟨ae,0,0,ag,u,bs,kr,(aN.mono x)⟩ ?_ ?_
  ·rintro aQ ar _ bu cu hi117 bv ⟨J,O,R,U,rfl,ai,y,aj⟩
   refine sr (lv (s7 u u) (ns (C2 u (b8 (by omega)) (j5 (l4 (p9 (j7 (sr ?_))))))))
   obtain⟨S,bz,bA⟩:=ob bv
   refine li underlying27 F7 (T.mono ((s.trans x).trans y)) bz fun bB bC cv bD bE=>?_
   obtain⟨au,aw,ax,ay,az,aA,rfl,aR,bF,bG⟩:=bD
   have bH:E9 _ bB bC [V6 S.Id,V3 au aw ax,V3 ay az aA]:=bE
   refine lv (F5 F7 u ai bH u) (al F7 ai fun bI cw bJ=>?_)
   have bK:SH _ _ _ _ _ [u9 bI [V6 0,V3 none 0 0,V3 none 0 0] 67,_,_,_]:=bJ
   refine lw [V6 S.Id,V3 au aw ax,V3 ay az aA] F7 bK fun cx aB=>(nr (mv u (lv (n8 (ds:=[V6 q2.Kind,sv q2.Field,V3 G m n,V6 q2.From,V6 q2.To,V3 H o p]) C6 u m1 aB u u) (lv (n8 (ds:=[V6 S.Id,V3 au aw ax,V3 ay az aA]) F7 u m0 aB u u) ?_))))
   obtain⟨ak,bL,bM⟩:=ob bA
   have aS:=aB.f2
   refine lk b6j ((a7O F (q0:=(S8.mk q0 q1))) aS.e1 (aE.mono ((s.trans x).trans y)) (aF.mono ((s.trans x).trans y)) (T.mono ((s.trans x).trans y)) (aG.mono ((s.trans x).trans y)) aH aI (aJ.mono ((s.trans x).trans y)) aK aL (aM.mono ((s.trans x).trans y)) aR bF bG hD bL) ?_
   rintro cy cz ⟨bN,rfl,ad,bO⟩
   have aC:=(aS.c1 ad).t4
   refine av u (nr (mv u (lv (F9 u u) (nq (D4 bM u (fun bP aD=>?_) (fun bP aD=>?_))))))
   ·refine j3 (mv u (fl S6 u E4 m1 aC u (mv u (lv (D3 (cs:=#[V6 S.Id,V6 ak]) c5A M6 u (by kernel_rfl)) (lb E8 (.agg #[V6 S.Id,V6 ak]) [V6 S.Id,V6 ak] (B0.mk S.Id ak) underlying39 M6 ⟨u,aR,bO⟩ aC fun cA cB cC aT bQ bR=>?_)))))
    obtain⟨cD,bS,bT⟩:=ob aD
    refine lp underlying39 M6 (aj.mono (ad.le.trans aT)) bQ bS bR.f4 fun bU bV bW cE bX bY bZ ca=>(av u (nb (qg (lv (A3 u u (B5 hi117 (b7.max (T.mono (s.trans x))))) (mv u (i8 ?_))))))
    cases oi bT
    exact qd ⟨bU,bV,bW,bX,u,ca.f2.f4.s,(((y.trans ad.le).trans aT).trans bY),bZ⟩
   refine j5 (x9 (qg (lv (A3 u u (B5 hi117 (b7.max (T.mono (s.trans x))))) (mv u (i8 ?_)))))
   cases oi aD
   exact qd ⟨J,O,R,bN,u,aC.f3.f1.f3.s,(y.trans ad.le),(aj.mono ad.le)⟩
  rintro ar _ bu cb ⟨J,O,R,U,rfl,ai,y,aj⟩
  subst cb
  refine sr (lv (s7 u u) (ns (C1 u (c6 (by omega)) (w8 (g6 (g6 (l5 ?_)))))))
  cases oi br
  exact qd ⟨J,O,R,U,u,ai.s,y,aj⟩
 rintro _ cF ⟨Y,aa,ab,ac,rfl,cc,cG,cd⟩
 refine qr (mv u (av u (nq (l3 ?_))))
 cases oi bp
 exact ey results46 ⟨Y,aa,ab,ac,u,cc,cd⟩
end Go.Proofs.YtepcfgnicnibnaaGreatDoor
