/-
 Walks of the functions. Printed by gen.py.
-/
import Derived.Test.YtnloenhmkdpgeaaGreatDoorWalkA0
import Derived.Test.YtnloenhmkdpgeaaGreatDoorWalkA2
import Derived.Test.YtnloenhmkdpgeaaGreatDoorWalkA3
set_option linter.unusedVariables false
set_option linter.unusedSectionVars false
set_option maxRecDepth 100000
namespace Go.Proofs.YtnloenhmkdpgeaaGreatDoor
set_option maxHeartbeats 4000000
open Go Go.Fk Go.RowKit Tryz
variable (F:Nat){w:World}{K:F9}{Z:List Nat}{g1 g2 g3:Nat}{A B C D G H I J O R S T:Option Addr}{a b c d f i k l m n o p q s v x y aa ab ac ad ae af ag:Nat}
variable [dr:Dr]

theorem a2c {q0:u6}{q1:r4}{r:(List D3)}(hS:SH w K [] w K [])(aj:b7 D9 K A a b q0.Stops)(aS:b7 L0 K B c d q0.Syns)(aT:q1.length≤maxLen)(hm:Q7 F q0 q1=some r):
  Calls prog 67 #[.agg #[V3 A a b,V3 B c d],sv q1] w fun e w'=>∃a_1 n_2 c_3 K',e= .returned (V3 a_1 n_2 c_3)∧SH w K [] w' K' [tail (V3 a_1 n_2 c_3) 107 2]∧b7 S3 K' a_1 n_2 c_3 r:=by
 rw [Q7] at hm
 refine ci func67 u ntmps67 (sr (bx u hS fun i dR bk=>?_))
 have bl:SH _ _ _ _ _ [s7 i [V3 A a b,V3 B c d] 26]:=bk
 refine lv (r_n u) (nr (b0 S3 underlying104 M3 bl fun k dS bm J aU az=>(av u (ns (o4 ?_)))))
 obtain⟨bn,bo,bp⟩:=ob hm
 refine l4 (IV w K [] bm [(1,sv q1),(2,pt i),(5,V3 k 0 0),(20,.bool bn)] [s7 i [V3 A a b,V3 B c d] 26,tail (V3 k 0 0) 107 2]) ?_ ?_
 ·refine j5 (lv (j6 (ds:=[V3 A a b,V3 B c d]) B9 u m1 az u u) ?_)
  obtain⟨dT,bq,br⟩:=ob bo
  refine lk c4v (a52 F az.enter0 (aj.mono J) (aS.mono J) bq) ?_
  rintro dU dV ⟨bs,rfl,aA⟩
  have aB:=(az.c0 aA).t2
  refine lv (A4 u) (mv u (bt br (fun l aC=>?_) (fun l aC=>?_)))
  ·refine lu l (lu l (lu l (lv (J6 u l u) (i8 ?_))))
   cases oi aC
   exact qd ⟨bs,u,aB.f1,aA.le⟩
  refine lg l (i5 u) ?_
  obtain⟨dW,bu,bv⟩:=ob aC
  refine A3 (wg u u l) u (A2 (vs:=[sv q1]) c1w u) (a54 F aB.enter0 aT bu) ?_
  rintro dX dY ⟨bz,rfl,aV⟩
  refine⟨_,u,?_⟩
  have bA:=(aB.c0 aV).t2
  refine lg l (A4 u) (lv (l9 u l u) (i8 ?_))
  cases oi bv
  exact qd ⟨bz,u,bA.f1,(aA.le.trans aV.le)⟩
 rintro _ dZ ⟨bB,rfl,aW,O⟩
 refine l5 (D5 bp u (fun bC aD=>?_) (fun bC aD=>?_))
 ·refine sr (mv u (av u (nq (rr ?_))))
  cases oi aD
  exact ey results67 ⟨k,0,0,bB,u,aW.s,(aU.mono O)⟩
 refine j3 (qr (b0 S3 underlying104 M3 aW fun bD ea eb Y bE aX=>(av u (O7 (mv u ?_)))))
 obtain⟨aY,bF,bG⟩:=ob aD
 refine lk c5C (b2y F aX.enter0 aT bF) ?_
 rintro ec ed ⟨aZ,ba,bb,aE,rfl,y,ak⟩
 have bH:=(aX.c0 y).t4
 refine lv (q9 underlying157 u ak) (lv (r_m u) (nq ?_))
 obtain⟨bI,bJ,bK⟩:=ob bG
 refine l4 (fun E' w'=>∃R S T C,E'=[(2,pt i),(5,V3 k 0 0),(6,V3 R S T)]∧SH w K [] w' C [s7 i [V3 A a b,V3 B c d] 26,tail (V3 k 0 0) 107 2,tail (V3 R S T) 107 2]∧M0 aE C∧b7 S3 C R S T bI) ?_ ?_
 ·refine j7 ?_
  obtain⟨ee,bL,bM⟩:=ob bJ
  have bN:=bH.f1.f3.f3.sb (sk (sk (sk (sd sz))))
  refine qF (fun (aF:Nat) (aG:(List D3)) E' w'=>∃m o q U,E'=[(2,pt i),(5,V3 k 0 0),(6,V3 m o q),(24,V3 aZ ba bb),(25,V6 (aY.length:Int)),(26,V6 ((aF:Nat):Int))]∧SH w K [] w' U [s7 i [V3 A a b,V3 B c d] 26,tail (V3 k 0 0) 107 2,tail (V3 m o q) 107 2]∧M0 aE U∧b7 S3 U m o q aG) bL ⟨bD,0,0,aE,u,bN,kr,(bE.mono y.le)⟩ ?_ ?_
  ·rintro aF aG _ bO ef hi97 bP ⟨m,o,q,U,rfl,am,D,an⟩
   refine sr (lv (u7 u u) (ns (C9 u (b8 (by omega)) (j3 (l5 (o4 (j7 (sr ?_))))))))
   obtain⟨f,bQ,bR⟩:=ob bP
   refine li underlying157 a4I (ak.mono D) bQ fun bS bT eg bU bV=>?_
   obtain⟨rfl,bc,bW,eh,ei⟩:=bU
   have bX:F1 _ bS bT [sv f.Text,V6 f.At,V6 f.From,V6 f.To]:=bV
   refine lv (F3 a4I u am bX u) (al a4I am fun aH ej bY=>?_)
   have bZ:SH _ _ _ _ _ [s7 aH [sv [],V6 0,V6 0,V6 0] 160,_,_,_]:=bY
   refine lw [sv f.Text,V6 f.At,V6 f.From,V6 f.To] a4I bZ fun ek aI=>(nr (fl b0o u G7 m0 aI u ?_))
   obtain⟨V,ca,cb⟩:=ob bR
   refine lk c1v (a4x F aI.enter0 bc ca) ?_
   rintro el em ⟨cc,rfl,G,bd⟩
   have ao:=(aI.c0 G).t4
   refine av u (ns ?_)
   obtain⟨cd,ce,cf⟩:=ob cb
   refine l4 (IV w K [] cc [(2,pt i),(5,V3 k 0 0),(6,V3 m o q),(8,pt aH),(9,sv V),(24,V3 aZ ba bb),(25,V6 (aY.length:Int)),(26,V6 ((aF:Nat):Int)),(45,.bool cd)] [s7 i [V3 A a b,V3 B c d] 26,s7 aH [sv f.Text,V6 f.At,V6 f.From,V6 f.To] 160,tail (V3 k 0 0) 107 2,tail (V3 m o q) 107 2]) ?_ ?_
   ·refine j5 (fl a34 u W1 m1 ao u (fl b0o u G7 m0 ao u ?_))
    obtain⟨en,cg,ch⟩:=ob ce
    refine lk c4A (a0F F ao.enter0 (b7.mono (((((J.trans O).trans Y).trans y.le).trans D).trans G.le) aj) bc cg) ?_
    rintro eo ep ⟨cj,rfl,ap⟩
    have aq:=(ao.c0 ap).t4
    refine lv (A4 u) (mv u (bt ch (fun s aJ=>?_) (fun s aJ=>?_)))
    ·refine lg s (c7 a34 u) (lg s (w8 W1 u m1 aq u) (lg s (i5 u) ?_))
     obtain⟨eq,ck,cl⟩:=ob aJ
     refine A3 (wg u u s) u (A2 (vs:=[V3 A a b,sv V]) c4A u) (a0F F aq.enter0 (b7.mono ((((((J.trans O).trans Y).trans y.le).trans D).trans G.le).trans ap.le) aj) bd ck) ?_
     rintro es et ⟨cm,rfl,be⟩
     refine⟨_,u,?_⟩
     have cn:=(aq.c0 be).t4
     refine lg s (A4 u) (lv (n9 u s u) (i8 ?_))
     cases oi cl
     exact qd ⟨cm,u,cn.f3.f3.f2.f3,(ap.le.trans be.le)⟩
    iterate 5 refine lu s ?_
    refine lv (L8 u s u) (i8 ?_)
    cases oi aJ
    exact qd ⟨cj,u,aq.f3.f3.f2.f3,ap.le⟩
   rintro _ eu ⟨cp,rfl,aK,ar⟩
   refine l5 (D5 cf u (fun cq aL=>?_) (fun cq aL=>?_))
   ·refine j5 (mv u (mv u (fl b83 u E6 m1 aK u (lv (C3 (cs:=#[sv V,V6 f.At]) b9E M3 u (by kernel_rfl)) (lb S3 (.agg #[sv V,V6 f.At]) [sv V,V6 f.At] (D3.mk V f.At) underlying104 M3 ⟨u,bd,bW⟩ aK fun ev ew ex bf cr ct=>?_)))))
    obtain⟨eA,cu,cv⟩:=ob aL
    refine lp underlying104 M3 (an.mono ((G.le.trans ar).trans bf)) cr cu ct.f4 fun cw cx cy eB cz cA cB cC=>(av u (nb (qg (lv (B6 u u (C6 hi97 (b7.max ak))) (mv u (i8 ?_))))))
    cases oi cv
    exact qd ⟨cw,cx,cy,cz,u,cC.f4.f3.s,((((D.trans G.le).trans ar).trans bf).trans cA),cB⟩
   refine j3 (x8 (qg (lv (B6 u u (C6 hi97 (b7.max ak))) (mv u (i8 ?_)))))
   cases oi aL
   exact qd ⟨m,o,q,cp,u,aK.s,((D.trans G.le).trans ar),(an.mono (G.le.trans ar))⟩
  rintro aG _ bO cD ⟨m,o,q,U,rfl,am,D,an⟩
  subst cD
  refine sr (lv (u7 u u) (ns (C8 u (c6 (by omega)) (y4 (g8 (g8 (l6 ?_)))))))
  cases oi bM
  exact qd ⟨m,o,q,U,u,am,D,an⟩
 rintro _ eC ⟨R,S,T,C,rfl,cE,aM,au⟩
 refine qs (sr (lv (N2 u) (nq ?_)))
 obtain⟨cF,cG,cH⟩:=ob bK
 refine l4 (fun E' w'=>∃aa ab ac ad,E'=[(5,V3 aa ab ac)]∧SH w K [] w' ad [tail (V3 aa ab ac) 107 2]∧M0 C ad∧b7 S3 ad aa ab ac cF) ?_ ?_
 ·refine j7 ?_
  obtain⟨eD,cI,cJ⟩:=ob cG
  refine qw (fun (aw:(List D3)×Int) E' w'=>∃ae af ag ah,E'=[(2,pt i),(5,V3 ae af ag),(6,V3 R S T),(10,V6 aw.2)]∧SH w K [] w' ah [s7 i [V3 A a b,V3 B c d] 26,tail (V3 ae af ag) 107 2,tail (V3 R S T) 107 2]∧M0 C ah∧b7 S3 ah ae af ag aw.1∧i7 aw.2) cI ⟨k,0,0,C,u,cE,kr,(b7.mono (((O.trans Y).trans y.le).trans aM) aU),I5⟩ ?_
  rintro aw _ eE eF cK cL ⟨ae,af,ag,ah,rfl,ax,x,aN,cM⟩
  refine o4 (sr (mv u (mv u (lv (q9 underlying104 u (au.mono x)) (lv (u7 u u) (nq (D5 cK u (fun cN aO=>?_) (fun cN aO=>?_))))))))
  ·refine j3 (l5 (j7 (sr (lv (j6 (ds:=[V3 A a b,V3 B c d]) B9 u m0 ax u u) (mv u (mv u ?_))))))
   obtain⟨eG,cO,cP⟩:=ob aO
   refine lk c5D (b3N F ax.enter0 (b7.mono (((((J.trans O).trans Y).trans y.le).trans aM).trans x) aj) (b7.mono (((((J.trans O).trans Y).trans y.le).trans aM).trans x) aS) (au.mono x) cM cO) ?_
   rintro eH eI ⟨v221,cQ,rfl,H,hp222⟩
   have aP:=(ax.c0 H).t3
   refine av u (O7 (mv u (lv (c3v underlying161 u u hp222) (nq (D5 cP u (fun cR aQ=>?_) (fun cR aQ=>?_))))))
   ·refine sr (mv u (mv u (mv u ?_)))
    obtain⟨I,cS,cT⟩:=ob aQ
    refine li underlying104 M3 (au.mono (x.trans H.le)) cS fun cU cV eJ cW cX=>?_
    obtain⟨rfl,cY,cZ⟩:=cW
    have da:F1 _ cU cV [sv I.Text,V6 I.At]:=cX
    refine lv (F3 M3 u aP da u) (lb S3 (.agg #[sv I.Text,V6 I.At]) [sv I.Text,V6 I.At] I underlying104 M3 ⟨u,cY,cZ⟩ aP fun eK eL eM bg db dc=>?_)
    obtain⟨eN,dd,de⟩:=ob cT
    refine lp underlying104 M3 (aN.mono (H.le.trans bg)) db dd dc.f2 fun df dg dh eO di dj dk dl=>(av u (nr (mv u (lv (y7 u u) (av u (nq (y4 (g8 (l6 ?_)))))))))
    cases oi de
    exact qd ⟨_,u,df,dg,dh,di,u,dl.f3.f1.f3.s,(((x.trans H.le).trans bg).trans dj),dk,(u0 _)⟩
   refine j3 (qs ?_)
   have bh:=aP.drew
   refine wh1 (fun w'=>H0 cQ w') (fun w'=>True) 14 [] mixed (bh.hasK kr) (fun _=>trivial) (gt (i5 u) (gt (i5 u) ?_))
   obtain⟨ai,dm,dn⟩:=ob aQ
   obtain⟨dp,dq,eP,rfl,dr,dt⟩:=a9j.get hp222 dm
   obtain⟨du,dv,dw,rfl,dx,dy⟩:=dr
   have bi:F1 _ dp dq [V3 du dv dw,sv ai.To]:=dt
   refine gt (B7 u) (gt (c7 a6q u) (gh (fun _ h=>a0Y G7 u (bi 1 _ u) h) (gt (i5 u) (gt (i5 u) ?_))))
   obtain⟨W,dz,dA⟩:=ob dn
   refine gi underlying104 M3 (au.mono (x.trans H.le)) dz fun dB dC eQ dD dE=>?_
   obtain⟨rfl,eR,dF⟩:=dD
   have dG:F1 _ dB dC [sv W.Text,V6 W.At]:=dE
   refine gt (c7 a30 u) (gh (fun _ h=>a0Y E6 u (dG 1 _ u) h) (gt (C3 (cs:=#[sv ai.To,V6 W.At]) b9E M3 u (by kernel_rfl)) (gn (lb S3 (.agg #[sv ai.To,V6 W.At]) [sv ai.To,V6 W.At] (D3.mk ai.To W.At) underlying104 M3 ⟨u,dy,dF⟩ bh fun eS eT eU X dH bj=>(i8 (qh (bj.hasK X) (fun _=>trivial) (gn ?_)))))))
   obtain⟨eV,dI,dJ⟩:=ob dA
   refine lp underlying104 M3 (aN.mono (H.le.trans X)) dH dI bj.f2 fun dK dL dM eW dN ay dO aR=>(i8 (qh (aR.hasK (X.trans ay)) (fun _=>trivial) (gt (u9 u) (gd' (l5 (j5 (mv u (mv u (lv (B7 u) (fa a0R u ?_))))))))))
   refine lv (y9 W1 u aR ((F1.mono (X.trans ay) bi) 0 _ u)) (lv (q9 underlying23 u (dx.mono (X.trans ay))) (lv (y7 u u) (av u (nb ?_))))
   cases oi dJ
   exact qd ⟨_,u,dK,dL,dM,dN,u,aR.f3.f1.f3.s,(((x.trans H.le).trans X).trans ay),dO,(u0 _)⟩
  refine y4 (g8 (g8 ?_))
  cases oi aO
  cases cL _ u
  refine l6 ?_
  cases oi cJ
  exact qd ⟨ae,af,ag,ah,u,ax.s,x,aN⟩
 rintro _ eX ⟨aa,ab,ac,ad,rfl,dP,eY,dQ⟩
 refine qr (mv u (av u (nq (j9 ?_))))
 cases oi cH
 exact ey results67 ⟨aa,ab,ac,ad,u,dP,dQ⟩

theorem b4H {q0:u6}{q1:List A1}{r:A5}(hS:SH w K [] w K [])(bH:b7 D9 K A a b q0.Stops)(bI:b7 L0 K B c d q0.Syns)(ay:b7 F6 K C f i q1)(hm:a4k F q0 q1=some r):
  Calls prog 62 #[.agg #[V3 A a b,V3 B c d],V3 C f i] w fun e w'=>∃a_1 n_2 c_3 a_5 n_6 c_7 K',e= .returned (.agg #[V3 a_1 n_2 c_3,V3 a_5 n_6 c_7])∧SH w K [] w' K' [tail (V3 a_5 n_6 c_7) 99 3]∧b7 F6 K' a_1 n_2 c_3 r.Docs∧b7 B8 K' a_5 n_6 c_7 r.Entries:=by
 rw [a4k] at hm
 refine ci func62 rfl ntmps62 (sr (bx rfl hS fun l eA bV=>?_))
 have bW:SH _ _ _ _ _ [s7 l [V3 A a b,V3 B c d] 26]:=bV
 refine al C4 bW fun k eB bX=>?_
 have bi:SH _ _ _ _ _ [s7 k [V3 none 0 0,V3 none 0 0] 30,_]:=bX
 refine ns (o4 ?_)
 obtain⟨bY,bZ,ca⟩:=ob hm
 refine l4 (IV w K [] K [(1,V3 C f i),(2,pt l),(4,pt k),(19,.bool bY)] [s7 l [V3 A a b,V3 B c d] 26,s7 k [V3 none 0 0,V3 none 0 0] 30]) ?_ ?_
 ·refine j5 (lv (j6 (ds:=[V3 A a b,V3 B c d]) B9 rfl m1 bi rfl rfl) ?_)
  obtain⟨eC,cb,cc⟩:=ob bZ
  refine lk c4v (a52 F bi.enter0 bH bI cb) ?_
  rintro eD eE ⟨cd,rfl,aK⟩
  have bj:=(bi.c0 aK).t2
  refine lv (A4 rfl) (mv rfl (bt cc (fun o bk=>?_) (fun o bk=>?_)))
  ·refine lu o (lu o (lu o (lv (J6 rfl o rfl) (i8 ?_))))
   cases oi bk
   exact qd ⟨cd,rfl,bj.f1,aK.le⟩
  refine lg o (i5 rfl) ?_
  obtain⟨eF,ce,cf⟩:=ob bk
  refine A3 (wg rfl rfl o) rfl (A2 (vs:=[V3 C f i]) c6A rfl) (a8s F bj.enter0 (ay.mono aK.le) ce) ?_
  rintro eG eH ⟨cg,rfl,bJ⟩
  refine⟨_,rfl,?_⟩
  have ch:=(bj.c0 bJ).t2
  refine lg o (A4 rfl) (lv (l9 rfl o rfl) (i8 ?_))
  cases oi cf
  exact qd ⟨cg,rfl,ch.f1,(aK.le.trans bJ.le)⟩
 rintro _ eI ⟨cj,rfl,bl,S⟩
 refine l5 (D5 ca rfl (fun ck bm=>?_) (fun ck bm=>?_))
 ·refine sr (lv (C3 (cs:=#[V3 none 0 0,V3 none 0 0]) c5h C4 rfl (by kernel_rfl)) (lw [V3 none 0 0,V3 none 0 0] C4 bl.f1 fun eJ bK=>(nq (rr ?_))))
  cases oi bm
  have cl:=bK.nil 99 3
  exact ez results62 C4 bK m0 ⟨none,0,0,none,0,0,cj,rfl,cl.s,(b7.nil _ _),(b7.nil _ _)⟩
 refine j3 (qr (mv rfl ?_))
 obtain⟨eK,cm,cn⟩:=ob bm
 refine lk c5v (b0G F bl.enter0 (ay.mono S) cm) ?_
 rintro eL eM ⟨bn,bo,bp,eN,rfl,U,cp⟩
 have cq:=(bl.c0 U).t3
 refine b0 B8 underlying28 P2 cq fun bq eO br V eP cr=>(lv (C3 (cs:=#[V3 bn bo bp,V3 bq 0 0]) c5h C4 rfl (by kernel_rfl)) (al C4 cr fun m eQ ct=>?_))
 have cu:SH _ _ _ _ _ [s7 m [V3 none 0 0,V3 none 0 0] 30,_,_,_,_]:=ct
 refine lw [V3 bn bo bp,V3 bq 0 0] C4 cu fun eR cv=>(O7 (mv rfl (lv (q9 underlying27 rfl (ay.mono ((S.trans U.le).trans V))) (lv (r_m rfl) (nq ?_)))))
 obtain⟨bL,cw,cx⟩:=ob cn
 refine l4 (fun E' w'=>∃X Y aa I J O lay94 aL,E'=[(4,pt k),(5,pt m)]∧SH w K [] w' aL [s7 k [V3 none 0 0,V3 none 0 0] 30,s7 m [V3 X Y aa,V3 I J O] 30,a8D (S6 99 48 3 I J O lay94)]∧M0 br aL∧b7 F6 aL X Y aa bL.Docs∧a7A lay94 bL.Entries) ?_ ?_
 ·refine j7 ?_
  obtain⟨eS,cy,cz⟩:=ob cw
  have cA:=c0J (TP:=48) (TI:=3) cv.f1
  have cB:=cA.f1.f4.f4.sb (sk (sk (sk (sk (sd sz)))))
  refine qF (fun (ab:Nat) (aM:A5) E' w'=>∃ac ad ae af ag ah lay112 q,E'=[(2,pt l),(4,pt k),(5,pt m),(25,V3 C f i),(26,V6 (q1.length:Int)),(27,V6 ((ab:Nat):Int))]∧SH w K [] w' q [s7 l [V3 A a b,V3 B c d] 26,s7 k [V3 none 0 0,V3 none 0 0] 30,s7 m [V3 ac ad ae,V3 af ag ah] 30,a8D (S6 99 48 3 af ag ah lay112)]∧M0 br q∧b7 F6 q ac ad ae aM.Docs∧a7A lay112 aM.Entries) cy ⟨bn,bo,bp,bq,0,0,[],br,rfl,cB,kr,(cp.mono V),⟨(fun _ h=>by cases h),rfl⟩⟩ ?_ ?_
  ·rintro ab aM _ cC eT hi121 cD ⟨ac,ad,ae,af,ag,ah,lay112,q,rfl,aN,ai,bs,bu⟩
   refine sr (lv (u7 rfl rfl) (ns (C9 rfl (b8 (by omega)) (j3 (l5 (o4 (j7 (sr ?_))))))))
   obtain⟨s,cE,cF⟩:=ob cD
   refine li underlying27 E8 (b7.mono (((S.trans U.le).trans V).trans ai) ay) cE fun cG cH eU cI cJ=>?_
   obtain⟨D,G,H,az,aA,aB,rfl,cK,bv,eV⟩:=cI
   have cL:F1 _ cG cH [V6 s.Id,V3 D G H,V3 az aA aB]:=cJ
   refine lv (F3 E8 rfl aN cL rfl) (al E8 aN fun R eW cM=>?_)
   have cN:SH _ _ _ _ _ [s7 R [V6 0,V3 none 0 0,V3 none 0 0] 44,_,_,_,_]:=cM
   refine lw [V6 s.Id,V3 D G H,V3 az aA aB] E8 cN fun eX bM=>(nr (fl a1x rfl a7g m0 bM rfl (lv (q9 underlying41 rfl bv) (lv (r_m rfl) (nq ?_)))))
   obtain⟨bN,cO,cP⟩:=ob cF
   refine l4 (fun E' w'=>∃aO aP aQ aR aS aT lay162 aC,E'=[(2,pt l),(4,pt k),(5,pt m),(25,V3 C f i),(26,V6 (q1.length:Int)),(27,V6 ((ab:Nat):Int))]∧SH w K [] w' aC [s7 l [V3 A a b,V3 B c d] 26,s7 k [V3 none 0 0,V3 none 0 0] 30,s7 m [V3 aO aP aQ,V3 aR aS aT] 30,a8D (S6 99 48 3 aR aS aT lay162)]∧M0 q aC∧b7 F6 aC aO aP aQ bN.Docs∧a7A lay162 bN.Entries) ?_ ?_
   ·refine j7 ?_
    obtain⟨eY,cQ,cR⟩:=ob cO
    refine qF (fun (aU:Nat) (aV:A5) E' w'=>∃aj ak am an ao ap lay180 aq,E'=[(2,pt l),(4,pt k),(5,pt m),(7,pt R),(25,V3 C f i),(26,V6 (q1.length:Int)),(27,V6 ((ab:Nat):Int)),(32,V3 D G H),(33,V6 (s.Fields.length:Int)),(34,V6 ((aU:Nat):Int))]∧SH w K [] w' aq [s7 l [V3 A a b,V3 B c d] 26,s7 k [V3 none 0 0,V3 none 0 0] 30,s7 m [V3 aj ak am,V3 an ao ap] 30,a8D (S6 99 48 3 an ao ap lay180),s7 R [V6 s.Id,V3 D G H,V3 az aA aB] 44]∧M0 q aq∧b7 F6 aq aj ak am aV.Docs∧a7A lay180 aV.Entries) cQ ⟨ac,ad,ae,af,ag,ah,lay112,q,rfl,bM.f4.f4.f4.f4,kr,bs,bu⟩ ?_ ?_
    ·rintro aU aV _ cS eZ hi187 cT ⟨aj,ak,am,an,ao,ap,lay180,aq,rfl,aW,ar,bz,bA⟩
     refine sr (lv (u7 rfl rfl) (ns (C9 rfl (b8 (by omega)) (j3 (l5 (o4 (j7 (sr ?_))))))))
     obtain⟨au,cU,cV⟩:=ob cT
     refine li underlying41 U6 (bv.mono ar) cU fun cW cX fb cY cZ=>?_
     obtain⟨rfl,da,db⟩:=cY
     have dc:F1 _ cW cX [sv au.Name,sv au.Text]:=cZ
     refine lv (F3 U6 rfl aW dc rfl) (al U6 aW fun bB fc dd=>?_)
     have de:SH _ _ _ _ _ [s7 bB [sv [],sv []] 148,_,_,_,_,_]:=dd
     refine lw [sv au.Name,sv au.Text] U6 de fun fd aX=>(nr (lv (j6 (ds:=[V3 A a b,V3 B c d]) B9 rfl m1 aX rfl rfl) (fl b0n rfl G7 m0 aX rfl ?_)))
     obtain⟨df,dg,dh⟩:=ob cV
     refine lk c1J (a2c F aX.enter0 (b7.mono ((((S.trans U.le).trans V).trans ai).trans ar) bH) (b7.mono ((((S.trans U.le).trans V).trans ai).trans ar) bI) db dg) ?_
     rintro fe fg ⟨di,dj,dk,bC,rfl,bD,bE⟩
     have dl:=(aX.c0 bD).t7
     refine lv (q9 underlying104 rfl bE) (lv (r_m rfl) (nq ?_))
     obtain⟨bO,dm,dn⟩:=ob dh
     refine l4 (fun E' w'=>∃aY aZ ba bb bc bd lay233 aD,E'=[(2,pt l),(4,pt k),(5,pt m),(7,pt R),(25,V3 C f i),(26,V6 (q1.length:Int)),(27,V6 ((ab:Nat):Int)),(32,V3 D G H),(33,V6 (s.Fields.length:Int)),(34,V6 ((aU:Nat):Int))]∧SH w K [] w' aD [s7 l [V3 A a b,V3 B c d] 26,s7 k [V3 none 0 0,V3 none 0 0] 30,s7 m [V3 aY aZ ba,V3 bb bc bd] 30,a8D (S6 99 48 3 bb bc bd lay233),s7 R [V6 s.Id,V3 D G H,V3 az aA aB] 44]∧M0 bC aD∧b7 F6 aD aY aZ ba bO.Docs∧a7A lay233 bO.Entries) ?_ ?_
     ·refine j7 ?_
      obtain⟨fh,dp,dq⟩:=ob dm
      have dt:=dl.f1.f6.f6.f6.f6.f6.sb (sk (sk (sk (sk (sk (sk (sd sz)))))))
      refine qF (fun (bP:Nat) (be:A5) E' w'=>∃aE aF aG aH aI aJ lay251 aw,E'=[(2,pt l),(4,pt k),(5,pt m),(7,pt R),(9,pt bB),(25,V3 C f i),(26,V6 (q1.length:Int)),(27,V6 ((ab:Nat):Int)),(32,V3 D G H),(33,V6 (s.Fields.length:Int)),(34,V6 ((aU:Nat):Int)),(41,V3 di dj dk),(42,V6 (df.length:Int)),(43,V6 ((bP:Nat):Int))]∧SH w K [] w' aw [s7 l [V3 A a b,V3 B c d] 26,s7 k [V3 none 0 0,V3 none 0 0] 30,s7 m [V3 aE aF aG,V3 aH aI aJ] 30,a8D (S6 99 48 3 aH aI aJ lay251),s7 R [V6 s.Id,V3 D G H,V3 az aA aB] 44,s7 bB [sv au.Name,sv au.Text] 148]∧M0 bC aw∧b7 F6 aw aE aF aG be.Docs∧a7A lay251 be.Entries) dp ⟨aj,ak,am,an,ao,ap,lay180,bC,rfl,dt,kr,(bz.mono bD.le),bA⟩ ?_ ?_
      ·rintro bP be _ du fi hi261 dv ⟨aE,aF,aG,aH,aI,aJ,lay251,aw,rfl,bf,bg,bF,bG⟩
       refine sr (lv (u7 rfl rfl) (ns (C9 rfl (b8 (by omega)) (j3 (l5 (o4 (j7 (sr ?_))))))))
       obtain⟨ax,dw,dx⟩:=ob dv
       refine li underlying104 M3 (bE.mono bg) dw fun dy dz fj dA dB=>?_
       obtain⟨rfl,dC,dD⟩:=dA
       have dE:F1 _ dy dz [sv ax.Text,V6 ax.At]:=dB
       refine lv (F3 M3 rfl bf dE rfl) (al M3 bf fun dF fk dG=>?_)
       have dH:SH _ _ _ _ _ [s7 dF [sv [],V6 0] 107,_,_,_,_,_,_]:=dG
       refine lw [sv ax.Text,V6 ax.At] M3 dH fun fm bh=>(nq (j5 (fl a5a rfl G7 m6 bh rfl (lv (j6 (ds:=[sv ax.Text,V6 ax.At]) M3 rfl m0 bh rfl rfl) (fl P6 rfl E6 m5 bh rfl ?_)))))
       obtain⟨fn,dI,dJ⟩:=ob dx
       have bQ:=bh.f4.f4
       refine lk c5w (b2x F bQ.e2 bF bG da dC dD cK dI) ?_
       rintro fo fp ⟨dK,dL,dM,dN,dO,dP,lay296,dQ,rfl,bR,dR,dS⟩
       have dT:=(bQ.c2 bR).t7
       refine nb (qg (lv (B6 rfl rfl (C6 hi261 (b7.max bE))) (mv rfl (i8 ?_))))
       cases oi dJ
       exact qd ⟨dK,dL,dM,dN,dO,dP,lay296,dQ,rfl,dT.f6.f6.f3.f3.f6.f6.s,(bg.trans bR.le),dR,dS⟩
      rintro be _ du dU ⟨aE,aF,aG,aH,aI,aJ,lay251,aw,rfl,bf,bg,bF,bG⟩
      subst dU
      refine sr (lv (u7 rfl rfl) (ns (C8 rfl (c6 (by omega)) (y4 (g8 (g8 (l6 ?_)))))))
      cases oi dq
      exact qd ⟨aE,aF,aG,aH,aI,aJ,lay251,aw,rfl,bf.s,bg,bF,bG⟩
     rintro _ fq ⟨aY,aZ,ba,bb,bc,bd,lay233,aD,rfl,dV,dW,dX,dY⟩
     refine x8 (qg (lv (B6 rfl rfl (C6 hi187 (b7.max bv))) (mv rfl (i8 ?_))))
     cases oi dn
     exact qd ⟨aY,aZ,ba,bb,bc,bd,lay233,aD,rfl,dV,((ar.trans bD.le).trans dW),dX,dY⟩
    rintro aV _ cS dZ ⟨aj,ak,am,an,ao,ap,lay180,aq,rfl,aW,ar,bz,bA⟩
    subst dZ
    refine sr (lv (u7 rfl rfl) (ns (C8 rfl (c6 (by omega)) (y4 (g8 (g8 (l6 ?_)))))))
    cases oi cR
    exact qd ⟨aj,ak,am,an,ao,ap,lay180,aq,rfl,aW.s,ar,bz,bA⟩
   rintro _ fr ⟨aO,aP,aQ,aR,aS,aT,lay162,aC,rfl,ea,eb,ec,ed⟩
   refine x8 (qg (lv (B6 rfl rfl (C6 hi121 (b7.max (ay.mono ((S.trans U.le).trans V))))) (mv rfl (i8 ?_))))
   cases oi cP
   exact qd ⟨aO,aP,aQ,aR,aS,aT,lay162,aC,rfl,ea,(ai.trans eb),ec,ed⟩
  rintro aM _ cC ee ⟨ac,ad,ae,af,ag,ah,lay112,q,rfl,aN,ai,bs,bu⟩
  subst ee
  refine sr (lv (u7 rfl rfl) (ns (C8 rfl (c6 (by omega)) (y4 (g8 (g8 (l6 ?_)))))))
  cases oi cz
  exact qd ⟨ac,ad,ae,af,ag,ah,lay112,q,rfl,aN.s,ai,bs,bu⟩
 rintro _ fs ⟨X,Y,aa,I,J,O,lay94,aL,rfl,bS,ft,ef,eg⟩
 refine qr (fl M2 rfl a1e m1 bS rfl ?_)
 obtain⟨fu,cs315,eh,hrow317,hm318,ei⟩:=c3z bS.f2 eg
 obtain⟨fv,ej,ek⟩:=ob cx
 refine A3 wn rfl (A2 (vs:=[V3 I J O,.func (.func 113) #[] #[]]) c5x rfl) (c0N (T:=B8) sortLay112 b7G rfl (fun w=>Go.Fk.a5P P2 w) (fun w=>Go.Fk.T7 P2 w) (fun a b=>W3 F a b) 113 (Go.Proofs.enters_of func113 (by kernel_rfl) rfl) ei hrow317 hm318 (fun K1 W v x u y r hW h1 h2 hm=>by
  obtain⟨fx,fy,fz,rfl,en,eo,ep⟩:=h1
  obtain⟨fA,fB,fC,rfl,eq,es,et⟩:=h2
  exact(b2w (dr:=⟨True⟩) F (SH.start (dr:=⟨True⟩) hW) en eo ep eq es et hm).mono fun e w' ⟨K',he,hS',_⟩=>⟨K',he,hS'⟩) ej) ?_
 rintro fD fE ⟨cs335,rfl,bT,hrow337,hm338⟩
 refine⟨_,rfl,?_⟩
 refine nr (lv (j6 (ds:=[V3 X Y aa,V3 I J O]) C4 rfl m2 bT rfl rfl) (lw [V3 X Y aa,V3 I J O] C4 bT.f1 fun fF eu=>(nq (j9 ?_))))
 obtain⟨ev,ew,ex,bU⟩:=SH.freezeI eu.f1 hrow337 hm338
 cases oi ek
 exact ez results62 C4 bU m1 ⟨X,Y,aa,I,J,O,ev,rfl,bU.s,(ef.mono (eh.trans ew)),ex⟩

theorem a2g {q0:List C0}{q1:List C0}{r:Bool}(hS:SH w K [] w K [])(l:b7 B8 K A a b q0)(O:b7 B8 K B c d q1)(hm:G4 F q0 q1=some r):
  Calls prog 61 #[V3 A a b,V3 B c d,.func (.func 63) #[] #[]] w (R_b w K r):=by
 rw [G4] at hm
 refine ci func61 u ntmps61 (sr (lv (O6 u) (O7 (mv u (lv (q9 underlying28 u l) (mv u (lv (q9 underlying28 u O) (lv (R2 u u) (nq ?_)))))))))
 refine R9 u (fun H=>?_) (fun H=>?_)
 ·have I:=a1a H hm
  refine sr (lv (O6 u) (nq (rr ?_)))
  cases oi I
  exact ey results61 ⟨K,u,hS⟩
 have I:=a09 H hm
 refine j3 (qs (sr (mv u (lv (q9 underlying28 u l) (lv (r_m u) (nq ?_))))))
 obtain⟨aa,ab,m⟩:=ob I
 refine l4 (IE aa w K [] K [] []) ?_ ?_
 ·refine j7 ?_
  obtain⟨aQ,ac,R⟩:=ob ab
  refine qf (fun (S:Nat) (T:Unit)=>IV w K [] K [(1,V3 B c d),(2,.func (.func 63) #[] #[]),(15,V3 A a b),(16,V6 (q0.length:Int)),(17,V6 ((S:Nat):Int))] []) ac ⟨K,u,hS,kr⟩ ?_ ?_
  ·rintro S T _ ad aR hi29 ae af ⟨U,rfl,o,k⟩
   refine sr (lv (u7 u u) (ns (C9 u (b8 (by omega)) (j3 (l5 (o4 (j7 (sr (mv u ?_)))))))))
   obtain⟨f,ag,ah⟩:=ob ae
   refine li underlying28 P2 (l.mono k) ag fun ai aj aS ak am=>?_
   obtain⟨q,s,x,rfl,an,ao,ap⟩:=ak
   have aq:F1 _ ai aj [sv f.Field,sv f.Term,V3 q s x]:=am
   refine lv (F3 P2 u o aq u) (al P2 o fun ar aT au=>?_)
   have aw:SH _ _ _ _ _ [s7 ar [sv [],sv [],V3 none 0 0] 99]:=au
   refine av u (lw [sv f.Field,sv f.Term,V3 q s x] P2 aw fun aU V=>(nr (mv u (mv u ?_))))
   obtain⟨i,ax,ay⟩:=ob ah
   refine li underlying28 P2 (O.mono k) ax fun az aA aV aB aC=>?_
   obtain⟨y,C,D,rfl,aD,aE,aF⟩:=aB
   have aG:F1 _ az aA [sv i.Field,sv i.Term,V3 y C D]:=aC
   refine lv (F3 P2 u V aG u) (al P2 V fun aH aW aI=>?_)
   have aJ:SH _ _ _ _ _ [s7 aH [sv [],sv [],V3 none 0 0] 99,_]:=aI
   refine lw [sv i.Field,sv i.Term,V3 y C D] P2 aJ fun aX G=>(nr (mv u (lv (j6 (ds:=[sv f.Field,sv f.Term,V3 q s x]) P2 u m1 G u u) (lv (j6 (ds:=[sv i.Field,sv i.Term,V3 y C D]) P2 u m0 G u u) ?_))))
   obtain⟨aY,aK,aL⟩:=ob ay
   refine A3 wn u (b0W (vs:=[.agg #[sv f.Field,sv f.Term,V3 q s x],.agg #[sv i.Field,sv i.Term,V3 y C D]]) (cap:=#[]) c65 u u) (b0I F G.enter0 an ao ap aD aE aF aK) ?_
   rintro aZ ba ⟨W,rfl,X⟩
   refine⟨_,u,?_⟩
   have Y:=(G.c0 X).t2
   refine lv (A4 u) (nq (D5 aL u (fun aM J=>?_) (fun aM J=>?_)))
   ·refine sr (lv (O6 u) (nq (j9 (i9 (c9 (c9 ?_))))))
    cases oi J
    cases af _ u
    refine i9 (c9 ?_)
    cases oi R
    refine c9 ?_
    cases oi m
    exact ey results61 ⟨W,u,Y.s⟩
   refine j3 (x8 (qg (lv (B6 u u (C6 hi29 (b7.max l))) (mv u (i8 ?_)))))
   cases oi J
   exact qd ⟨_,u,W,u,Y.s,(k.trans X.le)⟩
  rintro T _ ad aN ⟨U,rfl,o,k⟩
  subst aN
  refine sr (lv (u7 u u) (ns (C8 u (c6 (by omega)) (y4 (g8 (g8 (l6 ?_)))))))
  cases oi R
  exact L6 ⟨_,U,u,u,o,k⟩ trivial
 rintro _ bb ⟨bc,aO,rfl,rfl,aP,bd⟩
 have m:=E9 m
 refine qr (lv (r_t u) (nq (j9 ?_)))
 cases oi m
 exact ey results61 ⟨aO,u,aP⟩

theorem J1 {q0:u6}{q1:A5}{r:Bool}(hS:SH w K [] w K [])(T:b7 D9 K A a b q0.Stops)(U:b7 L0 K B c d q0.Syns)(V:b7 F6 K C f i q1.Docs)(ab:b7 B8 K D k l q1.Entries)(hm:H8 F q0 q1=some r):
  Calls prog 16 #[.agg #[V3 A a b,V3 B c d],.agg #[V3 C f i,V3 D k l]] w (R_b w K r):=by
 rw [H8] at hm
 refine ci func16 u ntmps16 (sr (bx u hS fun s az ac=>?_))
 have ad:SH _ _ _ _ _ [s7 s [V3 A a b,V3 B c d] 26]:=ac
 refine bx u ad fun x aA ae=>?_
 have O:SH _ _ _ _ _ [s7 x [V3 C f i,V3 D k l] 30,_]:=ae
 refine lv (O6 u) (ns (o4 ?_))
 obtain⟨af,ag,ah⟩:=ob hm
 refine l4 (IV w K [] K [(2,pt s),(3,pt x),(13,.bool af)] [s7 s [V3 A a b,V3 B c d] 26,s7 x [V3 C f i,V3 D k l] 30]) ?_ ?_
 ·refine j5 (lv (j6 (ds:=[V3 A a b,V3 B c d]) B9 u m1 O u u) ?_)
  obtain⟨aB,ai,aj⟩:=ob ag
  refine lk c4v (a52 F O.enter0 T U ai) ?_
  rintro aC aD ⟨ak,rfl,y⟩
  have G:=(O.c0 y).t2
  refine lv (A4 u) (mv u (bt aj (fun m R=>?_) (fun m R=>?_)))
  ·refine lu m (lu m (lu m (lu m (lv (J6 u m u) (i8 ?_)))))
   cases oi R
   exact qd ⟨ak,u,G.f1,y.le⟩
  refine lg m (c7 L3 u) (lg m (w8 a1b u m0 G u) ?_)
  obtain⟨aE,al,am⟩:=ob R
  refine A3 (wg u u m) u (A2 (vs:=[V3 C f i]) c6A u) (a8s F G.enter0 (V.mono y.le) al) ?_
  rintro aF aG ⟨an,rfl,W⟩
  refine⟨_,u,?_⟩
  have ao:=(G.c0 W).t2
  refine lg m (A4 u) (lv (l9 u m u) (i8 ?_))
  cases oi am
  exact qd ⟨an,u,ao.f1,(y.le.trans W.le)⟩
 rintro _ aH ⟨X,rfl,Y,H⟩
 refine l5 (D5 ah u (fun ap S=>?_) (fun ap S=>?_))
 ·refine sr (lv (O6 u) (nq (rr ?_)))
  cases oi S
  exact ey results16 ⟨X,u,Y.s⟩
 refine j3 (qs ?_)
 have o:=Y.drew
 refine j_0 (fun w'=>H0 X w'∧B0 s [V3 A a b,V3 B c d] w'∧B0 x [V3 C f i,V3 D k l] w') 9 [] mixed ⟨o.hasK kr,o.hasObj m0,o.hasObj m1⟩ (jh 0 u (fun _ h=>A0 (ds:=[V3 A a b,V3 B c d]) B9 u u u h.2.1) (jv 1 u (c7 L3 u) (jh 2 u (fun _ h=>B5 a1b u u h.2.2) (jv 5 u (c7 M2 u) (jh 6 u (fun _ h=>B5 a1e u u h.2.2) (j1 3 u ?_))))))
 obtain⟨aI,aq,ar⟩:=ob S
 refine lk c64 (b4H F o.enter0 (T.mono H) (U.mono H) (V.mono H) aq) ?_
 rintro aJ aK ⟨aL,aM,aN,aO,aP,aQ,aR,rfl,I,aS,au⟩
 have q:=(o.c0 I).t3
 refine P0 ⟨q.hasK I.le,q.hasObj m1,q.hasObj m2⟩ (jv 4 u (b7s c4H a1e u (.inl ⟨u,u⟩)) (j1 7 u ?_))
 obtain⟨aT,aw,ax⟩:=ob ar
 refine lk c63 (a2g F q.enter0 au (ab.mono (H.trans I.le)) aw) ?_
 rintro aU aV ⟨ay,rfl,aa⟩
 have J:=(q.c0 aa).t3
 refine P0 ⟨J.hasK (I.le.trans aa.le),J.hasObj m1,J.hasObj m2⟩ (jv 8 u (u9 u) (jd (l5 (j9 ?_))))
 cases oi ax
 exact ey results16 ⟨ay,u,J.s⟩

theorem a4y {q0:u6}{q1:r4}{r:r4}(hS:SH w K [] w K [])(C:b7 D9 K A a b q0.Stops)(D:b7 L0 K B c d q0.Syns)(o:q1.length≤maxLen)(hm:Z7 F q0 q1=some r):
  Calls prog 19 #[.agg #[V3 A a b,V3 B c d],sv q1] w fun e w'=>∃K',e= .returned (sv r)∧SH w K [] w' K' []∧r.length≤maxLen:=by
 rw [Z7] at hm
 refine ci func19 u ntmps19 (sr (bx u hS fun G af H=>?_))
 have q:SH _ _ _ _ _ [s7 G [V3 A a b,V3 B c d] 26]:=H
 refine lv (r_s u) (O7 (mv u ?_))
 obtain⟨ag,I,J⟩:=ob hm
 refine lk b0l (J5 F q.enter0 o I) ?_
 rintro ah ai ⟨O,rfl,i⟩
 have f:=(q.c0 i).t1
 refine lv (A4 u) (nq (D5 J u (fun R k=>?_) (fun R k=>?_)))
 ·refine sr (lv (r_s u) (nq (rr ?_)))
  cases oi k
  exact ey results19 ⟨O,u,f.s,(by decide :([]:r4).length≤maxLen)⟩
 refine j3 (qr (lv (j6 (ds:=[V3 A a b,V3 B c d]) B9 u m0 f u u) (mv u ?_)))
 obtain⟨aj,S,T⟩:=ob k
 refine lk c1J (a2c F f.enter0 (C.mono i.le) (D.mono i.le) o S) ?_
 rintro ak al ⟨am,an,ao,s,rfl,U,x⟩
 have l:=(f.c0 U).t2
 refine av u (O7 (mv u (lv (q9 underlying104 u x) (lv (A9 u u) (nq (D5 T u (fun V m=>?_) (fun V m=>?_)))))))
 ·refine sr (lv (r_s u) (nq (rr ?_)))
  cases oi m
  exact ey results19 ⟨s,u,l.s,(by decide :([]:r4).length≤maxLen)⟩
 refine j3 (qr (mv u ?_))
 obtain⟨y,W,X⟩:=ob m
 refine li underlying104 M3 x W fun Y aa ap ab ac=>?_
 obtain⟨rfl,ad,aq⟩:=ab
 have ae:F1 _ Y aa [sv y.Text,V6 y.At]:=ac
 refine fa a3Z u (lv (y9 G7 u l (ae 0 _ u)) (av u (nq (j9 ?_))))
 cases oi X
 exact ey results19 ⟨s,u,l.s,ad⟩

theorem M6 {q0:Int}{q1:Int}{q2:Int}{q3:Int}{q4:Int}{r:a6l×Bool}(hS:SH w K [] w K [])(R:i7 q0)(S:i7 q1)(ad:i7 q2)(T:i7 q3)(ae:i7 q4)(hm:U8 F q0 q1 q2 q3 q4=some r):
  Calls prog 23 #[V6 q0,V6 q1,V6 q2,V6 q3,V6 q4] w fun e w'=>∃K',e= .returned (.tuple #[.agg #[V6 r.1.Up,V6 r.1.Down],.bool r.2])∧SH w K [] w' K' []∧i7 r.1.Up∧i7 r.1.Down:=by
 rw [U8] at hm
 refine ci func23 u ntmps23 (sr (al V4 hS fun i w7 af=>?_))
 have U:SH _ _ _ _ _ [s7 i [V6 0,V6 0] 50]:=af
 refine lv (O6 u) (ns (o4 ?_))
 obtain⟨ag,ah,ai⟩:=ob hm
 refine l4 (IV w K [] K [(0,V6 q0),(1,V6 q1),(2,V6 q2),(3,V6 q3),(4,V6 q4),(10,pt i),(38,.bool ag)] [s7 i [V6 0,V6 0] 50]) ?_ ?_
 ·refine j5 (mv u ?_)
  obtain⟨aZ,aj,ak⟩:=ob ah
  refine lk a5x (E2 F U.enter0 R (by decide :i7 1) (by decide :i7 80) aj) ?_
  rintro ba bb ⟨am,rfl,k⟩
  have q:=(U.c0 k).t1
  refine lv (A4 u) (mv u (bt ak (fun a s=>?_) (fun a s=>?_)))
  ·refine lu a (lu a (lu a (lu a (lv (J6 u a u) (mv u (lu u (lu u (lu u (lv (J6 u u u) ?_)))))))))
   refine mv u (lu u (lu u (lu u (lu u (lv (J6 u u u) (mv u (lu u (lu u (lu u ?_)))))))))
   refine lu u (lv (J6 u u u) (i8 ?_))
   cases oi s
   exact qd ⟨am,u,q,k.le⟩
  refine lg a (i5 u) (lg a (i5 u) ?_)
  obtain⟨bc,an,ao⟩:=ob s
  refine A3 (wg u u a) u (A2 (vs:=[V6 q1,V6 q0,V6 80]) a5x u) (E2 F q.enter0 S R (by decide :i7 80) an) ?_
  rintro bd be ⟨ap,rfl,l⟩
  refine⟨_,u,?_⟩
  have x:=(q.c0 l).t1
  refine lg a (A4 u) (lv (l9 u a u) (mv u (bt ao (fun f y=>?_) (fun f y=>?_))))
  ·refine lu f (lu f (lu f (lv (J6 u f u) (mv u (lu u (lu u (lu u (lu u (lv (J6 u u u) ?_)))))))))
   refine mv u (lu u (lu u (lu u (lu u (lv (J6 u u u) (i8 ?_))))))
   cases oi y
   exact qd ⟨ap,u,x,(k.le.trans l.le)⟩
  refine lg f (i5 u) ?_
  obtain⟨bf,aq,ar⟩:=ob y
  refine A3 (wg u u f) u (A2 (vs:=[V6 q3,V6 1,V6 16]) a5x u) (E2 F x.enter0 T (by decide :i7 1) (by decide :i7 16) aq) ?_
  rintro bg bh ⟨au,rfl,m⟩
  refine⟨_,u,?_⟩
  have A:=(x.c0 m).t1
  refine lg f (A4 u) (lv (l9 u f u) (mv u (bt ar (fun b B=>?_) (fun b B=>?_))))
  ·refine lu b (lu b (lu b (lu b (lv (J6 u b u) (mv u (lu u (lu u (lu u (lu u ?_)))))))))
   refine lv (J6 u u u) (i8 ?_)
   cases oi B
   exact qd ⟨au,u,A,((k.le.trans l.le).trans m.le)⟩
  refine lg b (i5 u) (lg b (i5 u) ?_)
  obtain⟨bi,aw,ax⟩:=ob B
  refine A3 (wg u u b) u (A2 (vs:=[V6 q4,V6 1,V6 q3]) a5x u) (E2 F A.enter0 ae (by decide :i7 1) T aw) ?_
  rintro bj bk ⟨ay,rfl,C⟩
  refine⟨_,u,?_⟩
  have D:=(A.c0 C).t1
  refine lg b (A4 u) (lv (l9 u b u) (mv u (bt ax (fun d G=>?_) (fun d G=>?_))))
  ·refine lu d (lu d (lu d (lu d (lv (J6 u d u) (i8 ?_)))))
   cases oi G
   exact qd ⟨ay,u,D,(((k.le.trans l.le).trans m.le).trans C.le)⟩
  refine lg d (i5 u) (lg d (i5 u) ?_)
  obtain⟨bl,az,aA⟩:=ob G
  refine A3 (wg u u d) u (A2 (vs:=[V6 q2,V6 q1,V6 1280]) a5x u) (E2 F D.enter0 ad S (by decide :i7 1280) az) ?_
  rintro bm bn ⟨aB,rfl,V⟩
  refine⟨_,u,?_⟩
  have aC:=(D.c0 V).t1
  refine lg d (A4 u) (lv (l9 u d u) (i8 ?_))
  cases oi aA
  exact qd ⟨aB,u,aC,((((k.le.trans l.le).trans m.le).trans C.le).trans V.le)⟩
 rintro _ bo ⟨H,rfl,aD,bp⟩
 refine l5 (D5 ai u (fun aE I=>?_) (fun aE I=>?_))
 ·refine sr ?_
  cases I
 refine j3 (qr (lv (N2 u) (ns ?_)))
 obtain⟨W,aF,aG⟩:=ob I
 refine l4 (IW w K [] H [(0,V6 q0),(1,V6 q1),(2,V6 q2),(3,V6 q3),(10,pt i),(12,V6 W)] [s7 i [V6 0,V6 0] 50] (i7 W)) ?_ ?_
 ·refine j7 ?_
  obtain⟨bq,aH,aI⟩:=ob aF
  refine qw (fun (J:Int)=>IW w K [] H [(0,V6 q0),(1,V6 q1),(2,V6 q2),(3,V6 q3),(4,V6 q4),(10,pt i),(12,V6 J)] [s7 i [V6 0,V6 0] 50] (i7 J)) aH ⟨H,u,aD,kr,I5⟩ ?_
  rintro J _ br bs aJ aK ⟨X,rfl,Y,aa,aL⟩
  refine o4 (sr (mv u (mv u (lv (y7 u u) ?_))))
  obtain⟨bu,aM,aN⟩:=ob aJ
  refine lv (c5b u u aM) (mv u (lv (V2 u u) (nq (D5 aN u (fun aO O=>?_) (fun aO O=>?_)))))
  ·refine j3 (l5 (j7 (j5 (mv u (lv (y7 u u) (av u (nb ?_)))))))
   cases oi O
   exact qd ⟨_,u,X,u,Y,aa,(u0 _)⟩
  refine y4 (g8 (g8 ?_))
  cases oi O
  cases aK _ u
  refine l6 ?_
  cases oi aI
  exact qd ⟨X,u,Y,aa,aL⟩
 rintro _ bv ⟨bx,rfl,ab,bz,bA⟩
 refine qr (mv u (lv (U4 u u) (mv u (lv (y7 u u) (lv (U4 u u) (mv u (lv (U4 u u) (lv (y7 u u) (mv u ?_)))))))))
 refine lv (U4 u u) (mv u (lv (U4 u u) (mv u ?_)))
 obtain⟨bB,aP,aQ⟩:=ob aG
 refine lv (a4D u u aP) (lv (y7 u u) ?_)
 obtain⟨o,aR,aS⟩:=ob aQ
 refine lk c66 (b4G F ab.enter0 (u0 _) (u0 _) aR) ?_
 rintro bC bD ⟨aT,rfl,aU,aV,aW⟩
 have aX:=(ab.c0 aU).t1
 refine lv (y3 u u) (lv (y3 u u) (lw [V6 o.1.Up,V6 o.1.Down] V4 aX fun bE ac=>(av u (nq (j9 ?_)))))
 cases oi aS
 exact S7 (vs:=[_,_]) results23 ⟨⟨_,_,u,B2 V4 (cs:=[V6 o.1.Up,V6 o.1.Down]) (fun j c e=>by rw [Nat.zero_add,ac.mem_obj m0];exact e) (.inl ⟨u,u,u⟩)⟩,u,trivial⟩ ⟨aT,u,ac.s,aV,aW⟩

theorem Y2 {q0:T0}{q1:u6}{q2:r4}{q3:Int}{r:Int}(hS:SH w K Z w K [s7 g1 [V3 A a b,V3 B c d,V3 C f i,V3 D k l] 113])(af:b7 D9 K A a b q0.c_.Stops)(ag:b7 L0 K B c d q0.c_.Syns)(ah:b7 F6 K C f i q0.s_.Docs)(ai:b7 B8 K D k l q0.s_.Entries)(aj:b7 D9 K G m n q1.Stops)(ak:b7 L0 K H o p q1.Syns)(am:q2.length≤maxLen)(an:i7 q3)(hm:L4 F q0 q1 q2 q3=some r):
  Calls prog 68 #[.pointer (some ⟨g1,2,none⟩),.agg #[V3 G m n,V3 H o p],sv q2,V6 q3] w fun e w'=>∃K',e= .returned (V6 r)∧SH w K Z w' K' [s7 g1 [V3 A a b,V3 B c d,V3 C f i,V3 D k l] 113]∧i7 r:=by
 rw [L4] at hm
 refine ci func68 u ntmps68 (sr (bx u hS fun X aI ao=>?_))
 have ap:SH _ _ _ _ _ [s7 X [V3 G m n,V3 H o p] 26,_]:=ao
 refine lv (N2 u) (nr (mv u (mv u ?_)))
 obtain⟨I,aq,ar⟩:=ob hm
 have Y:=ap.f1
 refine lk c4w (a5J F Y.e1 af ag ah ai an aq) ?_
 rintro aJ aK ⟨J,O,R,S,T,U,aa,rfl,V,au,aw,ax⟩
 have ay:=(Y.c1 V).t2
 refine mv u (lv (y3 u u) (lv (y3 u u) (al E8 ay fun ab aL az=>?_)))
 have aA:SH _ _ _ _ _ [s7 ab [V6 0,V3 none 0 0,V3 none 0 0] 44,_,_]:=az
 refine lw [V6 I.1.Id,V3 J O R,V3 S T U] E8 aA fun aM ac=>(av u (O7 (mv u (lv (A4 u) (nq (D5 ar u (fun aB W=>?_) (fun aB W=>?_)))))))
 ·refine sr (lv (N2 u) (nq (rr ?_)))
  cases oi W
  exact ey results68 ⟨aa,u,ac.s,I5⟩
 refine j3 (qs ?_)
 have q:=ac.drew
 refine wh1 (fun w'=>H0 aa w'∧B0 X [V3 G m n,V3 H o p] w'∧B0 ab [V6 I.1.Id,V3 J O R,V3 S T U] w') (fun w'=>True) 7 [] mixed ⟨q.hasK kr,q.hasObj m2,q.hasObj m0⟩ (fun _=>trivial) (gh (fun _ h=>A0 (ds:=[V3 G m n,V3 H o p]) B9 u u u h.2.1) (gh (fun _ h=>A0 (ds:=[V6 I.1.Id,V3 J O R,V3 S T U]) E8 u u u h.2.2) (gt (i5 u) (gn ?_))))
 obtain⟨aN,aC,aD⟩:=ob W
 refine lk c3R (a6Z F q.enter0 au aw ax am aC) ?_
 rintro aO aP ⟨aQ,rfl,s,aE⟩
 have x:=(q.c0 s).t3
 refine i8 (qh ⟨x.hasK s.le,x.hasObj m2,x.hasObj m0⟩ (fun _=>trivial) (gn ?_))
 obtain⟨aR,aF,aG⟩:=ob aD
 refine lk c1J (a2c F x.enter0 (aj.mono (V.le.trans s.le)) (ak.mono (V.le.trans s.le)) aE aF) ?_
 rintro aS aT ⟨aU,aV,aW,aH,rfl,ad,ae⟩
 have y:=(x.c0 ad).t4
 refine i8 (qh ⟨y.hasK (s.le.trans ad.le),y.hasObj m3,y.hasObj m1⟩ (fun _=>trivial) (gt (q9 underlying104 u ae) (gt (u9 u) (gd' (l5 (j9 ?_))))))
 cases oi aG
 exact ey results68 ⟨aH,u,y.s,ae.rn⟩

theorem a2x {q0:T0}{q1:r4}{q2:r4}{q3:Int}{r:Int}(hS:SH w K Z w K [s7 g1 [V3 A a b,V3 B c d,V3 C f i,V3 D k l] 113])(x:b7 D9 K A a b q0.c_.Stops)(y:b7 L0 K B c d q0.c_.Syns)(s:b7 F6 K C f i q0.s_.Docs)(O:b7 B8 K D k l q0.s_.Entries)(R:q1.length≤maxLen)(ab:q2.length≤maxLen)(au:i7 q3)(hm:M7 F q0 q1 q2 q3=some r):
  Calls prog 83 #[.pointer (some ⟨g1,0,none⟩),sv q1,sv q2,V6 q3] w fun e w'=>∃K',e= .returned (V6 r)∧SH w K Z w' K' [s7 g1 [V3 A a b,V3 B c d,V3 C f i,V3 D k l] 113]∧i7 r:=by
 rw [M7] at hm
 refine ci func83 u ntmps83 (sr (lv (N2 u) (nr (mv u (mv u (mv u (mv u ?_)))))))
 obtain⟨cx,bq,br⟩:=ob hm
 refine lk c1x (a2w F hS.e1 x y s O R ab au bq) ?_
 rintro cy cz ⟨aY,aZ,ba,ac,rfl,m,S⟩
 have aw:=(hS.c1 m).t1
 refine av u (O7 (mv u (lv (q9 underlying46 u S) (lv (A9 u u) (nq (D5 br u (fun bs ax=>?_) (fun bs ax=>?_)))))))
 ·refine sr (lv (N2 u) (nq (rr ?_)))
  cases oi ax
  exact ey results83 ⟨ac,u,aw,I5⟩
 refine j3 (qr (lv (N2 u) (O7 (mv u (lv (B7 u) (fa a6n u (fl L3 u a1b m0 aw u (lv (q9 underlying27 u (s.mono m.le)) (lv (r_m u) ?_)))))))))
 refine nq ?_
 obtain⟨bb,bu,bv⟩:=ob ax
 refine l4 (IW w K Z ac [(0,pt g1),(1,sv q1),(2,sv q2),(3,V6 q3),(9,V3 aY aZ ba),(10,V6 bb)] [s7 g1 [V3 A a b,V3 B c d,V3 C f i,V3 D k l] 113] (i7 bb)) ?_ ?_
 ·refine j7 ?_
  obtain⟨cA,bx,bz⟩:=ob bu
  refine qF (fun (bc:Nat) (ad:Int)=>IW w K Z ac [(0,pt g1),(1,sv q1),(2,sv q2),(3,V6 q3),(9,V3 aY aZ ba),(10,V6 ad),(27,V3 C f i),(28,V6 (q0.s_.Docs.length:Int)),(29,V6 ((bc:Nat):Int))] [s7 g1 [V3 A a b,V3 B c d,V3 C f i,V3 D k l] 113] (i7 ad)) bx ⟨ac,u,aw,kr,I5⟩ ?_ ?_
  ·rintro bc ad _ bA cB hi54 bB ⟨ay,rfl,ae,G,bd⟩
   refine sr (lv (u7 u u) (ns (C9 u (b8 (by omega)) (j3 (l5 (o4 (j7 (sr ?_))))))))
   obtain⟨az,bC,bD⟩:=ob bB
   refine li underlying27 E8 (s.mono (m.le.trans G)) bC fun bE bF cC bG bH=>?_
   obtain⟨aA,aB,aC,aD,aE,aF,rfl,bI,cD,cE⟩:=bG
   have bJ:F1 _ bE bF [V6 az.Id,V3 aA aB aC,V3 aD aE aF]:=bH
   refine lv (F3 E8 u ae bJ u) (al E8 ae fun be cF bK=>?_)
   have bL:SH _ _ _ _ _ [s7 be [V6 0,V3 none 0 0,V3 none 0 0] 44,_]:=bK
   refine lw [V6 az.Id,V3 aA aB aC,V3 aD aE aF] E8 bL fun cG bM=>(nq ?_)
   have af:=bM.drew
   refine wh1 (fun w'=>H0 ay w'∧B0 g1 [V3 A a b,V3 B c d,V3 C f i,V3 D k l] w'∧B0 be [V6 az.Id,V3 aA aB aC,V3 aD aE aF] w') (fun w'=>True) 14 [] mixed ⟨af.hasK kr,af.hasObj m1,af.hasObj m0⟩ (fun _=>trivial) (gt (i5 u) (gt (i5 u) (gt (B7 u) (gt (c7 a6n u) (gt (i5 u) (gt (B7 u) (gt (c7 b2Y u) (gh (fun _ h=>A0 (ds:=[V3 A a b,V3 B c d]) B9 u u u h.2.1) (gt (i5 u) ?_)))))))))
   refine gt (c7 P6 u) (gh (fun _ h=>B5 E6 u u h.2.2) (gn ?_))
   obtain⟨cH,bN,bO⟩:=ob bD
   have bf:=af.f1
   refine lk c2S (Y2 F bf.e1 (x.mono (m.le.trans G)) (y.mono (m.le.trans G)) (s.mono (m.le.trans G)) (O.mono (m.le.trans G)) (x.mono (m.le.trans G)) (y.mono (m.le.trans G)) R bI bN) ?_
   rintro cI cJ ⟨bP,rfl,aG,cK⟩
   have ag:=(bf.c1 aG).t2
   refine i8 (qh ⟨ag.hasK aG.le,ag.hasObj m0,ag.hasObj m1⟩ (fun _=>trivial) (gt (y7 u u) (gt (u9 u) (gd' (x8 (qg (lv (B6 u u (C6 hi54 (b7.max (s.mono m.le)))) (mv u (i8 ?_)))))))))
   cases oi bO
   exact qd ⟨bP,u,ag.s,(G.trans aG.le),(u0 _)⟩
  rintro ad _ bA bQ ⟨ay,rfl,ae,G,bd⟩
  subst bQ
  refine sr (lv (u7 u u) (ns (C8 u (c6 (by omega)) (y4 (g8 (g8 (l6 ?_)))))))
  cases oi bz
  exact qd ⟨ay,u,ae,G,bd⟩
 rintro _ cL ⟨bg,rfl,bR,o,ah⟩
 refine qs ?_
 obtain⟨T,bS,bT⟩:=ob bv
 refine l4 (fun E' w'=>∃aH aI,E'=[(0,pt g1),(13,pt aH)]∧SH w K Z w' aI [s7 aH [V6 T.Up,V6 T.Down] 50,s7 g1 [V3 A a b,V3 B c d,V3 C f i,V3 D k l] 113]∧M0 bg aI∧i7 T.Up∧i7 T.Down) ?_ ?_
 ·obtain⟨cM,bh,bU⟩:=ob bS
  obtain⟨cN,aJ,bV⟩:=ob bU
  obtain⟨J,ai,aj⟩:=ob bV
  have U:=bR.drew
  refine j_0 (fun w'=>H0 bg w'∧B0 g1 [V3 A a b,V3 B c d,V3 C f i,V3 D k l] w') 33 [] mixed ⟨U.hasK kr,U.hasObj m0⟩ (jv 0 u (i5 u) (jv 1 u (q9 underlying46 u (S.mono o)) (jv 2 u (i5 u) (jv 3 u (B7 u) (jv 4 u (c7 a6n u) (jv 5 u (i5 u) (jv 6 u (B7 u) (jv 7 u (c7 b2Y u) (jh 8 u (fun _ h=>A0 (ds:=[V3 A a b,V3 B c d]) B9 u u u h.2) ?_)))))))))
  refine jv 9 u (i5 u) (jv 10 u (i5 u) (jv 12 u (i5 u) (jv 13 u (i5 u) (jv 14 u (B7 u) (jv 15 u (c7 a6n u) (jv 16 u (c7 L3 u) (jh 17 u (fun _ h=>B5 a1b u u h.2) (jv 18 u (q9 underlying27 u (s.mono (m.le.trans o))) (jv 19 u (i5 u) ?_)))))))))
  refine jv 20 u (B7 u) (jv 21 u (c7 a6n u) (jv 22 u (i5 u) (jv 23 u (i5 u) (j2 11 30 u u ?_ ?_))))
  ·refine lk c2S (Y2 F U.e1 (x.mono (m.le.trans o)) (y.mono (m.le.trans o)) (s.mono (m.le.trans o)) (O.mono (m.le.trans o)) (x.mono (m.le.trans o)) (y.mono (m.le.trans o)) R au bh) ?_
   rintro cO cP ⟨cQ,rfl,q,aK⟩
   have V:=(U.c1 q).t1
   refine P0 ⟨V.hasK q.le,V.hasObj m0⟩ (j2 24 30 u u ?_ ?_)
   ·refine lk c1I (Q4 F V.e1 (x.mono ((m.le.trans o).trans q.le)) (y.mono ((m.le.trans o).trans q.le)) (s.mono ((m.le.trans o).trans q.le)) (O.mono ((m.le.trans o).trans q.le)) R ab aJ) ?_
    rintro cR cS ⟨cT,cU,cV,cW,rfl,H,aL⟩
    have W:=(V.c1 H).t1
    refine P0 ⟨W.hasK (q.le.trans H.le),W.hasObj m0⟩ (jv 25 u (q9 underlying37 u aL) (j2 26 30 u u ?_ ?_))
    ·refine lk b4z (M6 F W.enter0 (S.mono o).rn aK ah (s.mono (m.le.trans o)).rn aL.rn ai) ?_
     rintro cX cY ⟨bW,rfl,X,bX,bY⟩
     have aM:=(W.c0 X).t1
     refine P0 ⟨aM.hasK ((q.le.trans H.le).trans X.le),aM.hasObj m0⟩ (jv 27 u (i5 u) (jv 28 u (y3 u u) (jv 29 u (y3 u u) (j1 30 u (al V4 aM fun bi cZ bZ=>?_)))))
     have aN:SH _ _ _ _ _ [s7 bi [V6 0,V6 0] 50,_]:=bZ
     refine P0 ⟨aN.hasK ((q.le.trans H.le).trans X.le),aN.hasObj m1⟩ (j1 31 u (lw [V6 J.1.Up,V6 J.1.Down] V4 aN fun da aO=>(P0 ⟨aO.hasK ((q.le.trans H.le).trans X.le),aO.hasObj m1⟩ (jv 32 u (u9 u) (jd ?_)))))
     cases oi aj
     exact qd ⟨bi,bW,u,aO,((q.le.trans H.le).trans X.le),bX,bY⟩
    refine al V4 W fun bj db ca=>?_
    have ak:SH _ _ _ _ _ [s7 bj [V6 0,V6 0] 50,_]:=ca
    refine P0 ⟨ak.hasK (q.le.trans H.le),ak.hasObj m1⟩ (j1 26 u (lk b4z (M6 F ak.enter0 (S.mono o).rn aK ah (s.mono (m.le.trans o)).rn aL.rn ai) ?_))
    rintro dc dd ⟨cb,rfl,am,cc,cd⟩
    have aP:=(ak.c0 am).t2
    refine P0 ⟨aP.hasK ((q.le.trans H.le).trans am.le),aP.hasObj m1⟩ (jv 27 u (i5 u) (jv 28 u (y3 u u) (jv 29 u (y3 u u) (j1 31 u (lw [V6 J.1.Up,V6 J.1.Down] V4 aP fun de aQ=>(P0 ⟨aQ.hasK ((q.le.trans H.le).trans am.le),aQ.hasObj m1⟩ (jv 32 u (u9 u) (jd ?_))))))))
    cases oi aj
    exact qd ⟨bj,cb,u,aQ,((q.le.trans H.le).trans am.le),cc,cd⟩
   refine al V4 V fun bk df ce=>?_
   have aR:SH _ _ _ _ _ [s7 bk [V6 0,V6 0] 50,_]:=ce
   refine P0 ⟨aR.hasK q.le,aR.hasObj m1⟩ (j1 24 u ?_)
   have bl:=aR.f1
   refine lk c1I (Q4 F bl.e1 (x.mono ((m.le.trans o).trans q.le)) (y.mono ((m.le.trans o).trans q.le)) (s.mono ((m.le.trans o).trans q.le)) (O.mono ((m.le.trans o).trans q.le)) R ab aJ) ?_
   rintro dg dh ⟨di,dj,dk,dl,rfl,Y,bm⟩
   have an:=(bl.c1 Y).t2
   refine P0 ⟨an.hasK (q.le.trans Y.le),an.hasObj m0⟩ (jv 25 u (q9 underlying37 u bm) (j1 26 u (lk b4z (M6 F an.enter0 (S.mono o).rn aK ah (s.mono (m.le.trans o)).rn bm.rn ai) ?_)))
   rintro dm dn ⟨cf,rfl,ao,cg,ch⟩
   have aS:=(an.c0 ao).t2
   refine P0 ⟨aS.hasK ((q.le.trans Y.le).trans ao.le),aS.hasObj m0⟩ (jv 27 u (i5 u) (jv 28 u (y3 u u) (jv 29 u (y3 u u) (j1 31 u (lw [V6 J.1.Up,V6 J.1.Down] V4 aS.f1 fun dp aT=>(P0 ⟨aT.hasK ((q.le.trans Y.le).trans ao.le),aT.hasObj m1⟩ (jv 32 u (u9 u) (jd ?_))))))))
   cases oi aj
   exact qd ⟨bk,cf,u,aT,((q.le.trans Y.le).trans ao.le),cg,ch⟩
  refine al V4 U fun bn dq cj=>?_
  have aU:SH _ _ _ _ _ [s7 bn [V6 0,V6 0] 50,_]:=cj
  refine P0 ⟨aU.hasK kr,aU.hasObj m1⟩ (j1 11 u ?_)
  have bo:=aU.f1
  refine lk c2S (Y2 F bo.e1 (x.mono (m.le.trans o)) (y.mono (m.le.trans o)) (s.mono (m.le.trans o)) (O.mono (m.le.trans o)) (x.mono (m.le.trans o)) (y.mono (m.le.trans o)) R au bh) ?_
  rintro dr dt ⟨du,rfl,I,ck⟩
  have ap:=(bo.c1 I).t2
  refine P0 ⟨ap.hasK I.le,ap.hasObj m0⟩ (j1 24 u (lk c1I (Q4 F ap.e1 (x.mono ((m.le.trans o).trans I.le)) (y.mono ((m.le.trans o).trans I.le)) (s.mono ((m.le.trans o).trans I.le)) (O.mono ((m.le.trans o).trans I.le)) R ab aJ) ?_))
  rintro dv dw ⟨dx,dy,dz,dA,rfl,aa,bp⟩
  have aq:=(ap.c1 aa).t2
  refine P0 ⟨aq.hasK (I.le.trans aa.le),aq.hasObj m0⟩ (jv 25 u (q9 underlying37 u bp) (j1 26 u (lk b4z (M6 F aq.enter0 (S.mono o).rn ck ah (s.mono (m.le.trans o)).rn bp.rn ai) ?_)))
  rintro dB dC ⟨cl,rfl,ar,cm,cn⟩
  have aV:=(aq.c0 ar).t2
  refine P0 ⟨aV.hasK ((I.le.trans aa.le).trans ar.le),aV.hasObj m0⟩ (jv 27 u (i5 u) (jv 28 u (y3 u u) (jv 29 u (y3 u u) (j1 31 u (lw [V6 J.1.Up,V6 J.1.Down] V4 aV.f1 fun dD aW=>(P0 ⟨aW.hasK ((I.le.trans aa.le).trans ar.le),aW.hasObj m1⟩ (jv 32 u (u9 u) (jd ?_))))))))
  cases oi aj
  exact qd ⟨bn,cl,u,aW,((I.le.trans aa.le).trans ar.le),cm,cn⟩
 rintro _ dE ⟨aH,aI,rfl,aX,dF,cp,cq⟩
 refine qr (lv (j6 (ds:=[V6 T.Up,V6 T.Down]) V4 u m0 aX u u) ?_)
 obtain⟨dG,cr,cs⟩:=ob bT
 refine lk c4u (a4T F aX.enter0 cp cq (by decide :i7 1000) cr) ?_
 rintro dH dI ⟨ct,rfl,cu,cv⟩
 have cw:=(aX.c0 cu).t2
 refine av u (nq (j9 ?_))
 cases oi cs
 exact ey results83 ⟨ct,u,cw.s,cv⟩

theorem b1s {q0:List (List Int)}{q1:Int}{r:(List Int)}(hS:SH w K [] w K [])(T:b7 (X2 D6) K A a b q0)(aJ:i7 q1)(hm:a11 F q0 q1=some r):
  Calls prog 167 #[V3 A a b,V6 q1] w fun e w'=>∃a_1 n_2 c_3 K',e= .returned (V3 a_1 n_2 c_3)∧SH w K [] w' K' [tail (V3 a_1 n_2 c_3) 3 1]∧b7 D6 K' a_1 n_2 c_3 r:=by
 rw [a11] at hm
 refine ci func167 u ntmps167 (sr (lv (r_n u) (nr (b0 D6 underlying46 E6 hS fun U w7 K8 V ar au=>(av u (ns (o4 ?_)))))))
 obtain⟨aL,aM,aN⟩:=ob hm
 refine l4 (IV w K [] K8 [(0,V3 A a b),(1,V6 q1),(5,V3 U 0 0),(22,.bool aL)] [tail (V3 U 0 0) 3 1]) ?_ ?_
 ·refine j5 (mv u ?_)
  obtain⟨cu,aO,aP⟩:=ob aM
  refine lk c6i (b1y F au.enter0 (T.mono V) aO) ?_
  rintro cv cw ⟨aQ,rfl,ad⟩
  have ae:=(au.c0 ad).t1
  refine lv (A4 u) (mv u (bt aP (fun k af=>?_) (fun k af=>?_)))
  ·refine lu k (lu k (lu k (lv (J6 u k u) (i8 ?_))))
   cases oi af
   exact qd ⟨aQ,u,ae,ad.le⟩
  refine lg k (i5 u) ?_
  obtain⟨cx,aR,aS⟩:=ob af
  refine A3 (wg u u k) u (A2 (vs:=[V6 q1,V6 0,V6 5]) a5x u) (E2 F ae.enter0 aJ I5 (by decide :i7 5) aR) ?_
  rintro cy cz ⟨aT,rfl,aw⟩
  refine⟨_,u,?_⟩
  have aU:=(ae.c0 aw).t1
  refine lg k (A4 u) (lv (l9 u k u) (i8 ?_))
  cases oi aS
  exact qd ⟨aT,u,aU,(ad.le.trans aw.le)⟩
 rintro _ cA ⟨W,rfl,ag,B⟩
 refine l5 (D5 aN u (fun aV ah=>?_) (fun aV ah=>?_))
 ·refine sr (mv u (av u (nq (rr ?_))))
  cases oi ah
  exact ey results167 ⟨U,0,0,W,u,ag,(ar.mono B)⟩
 refine j3 (qs (sr (mv u ?_)))
 obtain⟨C,aW,aX⟩:=ob ah
 refine li underlying195 a1g (T.mono (V.trans B)) aW fun aY aZ cB ba bb=>?_
 obtain⟨q,s,x,rfl,X⟩:=ba
 have bc:F1 _ aY aZ [V3 q s x]:=bb
 refine lv (y9 a1g u ag (bc 0 _ u)) (lv (q9 underlying46 u X) (lv (r_m u) (nq ?_)))
 obtain⟨bd,be,bf⟩:=ob aX
 refine l4 (fun E' w'=>∃D G H I,E'=[(5,V3 D G H)]∧SH w K [] w' I [tail (V3 D G H) 3 1]∧M0 W I∧b7 D6 I D G H bd) ?_ ?_
 ·refine j7 ?_
  obtain⟨cC,bg,bh⟩:=ob be
  refine qF (fun (y:Nat) (ai:(List Int)) E' w'=>∃c d f l,E'=[(0,V3 A a b),(1,V6 q1),(5,V3 c d f),(26,V3 q s x),(27,V6 (C.length:Int)),(28,V6 ((y:Nat):Int))]∧SH w K [] w' l [tail (V3 c d f) 3 1]∧M0 W l∧b7 D6 l c d f ai) bg ⟨U,0,0,W,u,ag,kr,(ar.mono B)⟩ ?_ ?_
  ·rintro y ai _ bi cD hi77 bj ⟨c,d,f,l,rfl,Y,o,aa⟩
   refine sr (lv (u7 u u) (ns (C9 u (b8 (by omega)) (j3 (l5 (o4 (j7 (sr ?_))))))))
   obtain⟨m,bk,bl⟩:=ob bj
   refine li underlying46 E6 (X.mono o) bk fun bm bn cE bo bp=>?_
   obtain⟨rfl,ax⟩:=bo
   have bq:F1 _ bm bn [V6 m]:=bp
   refine lv (y9 E6 u Y (bq 0 _ u)) (av u (nr (mv u (av u (lv (r_t u) (O7 (mv u ?_)))))))
   obtain⟨ay,br,bs⟩:=ob bl
   refine a9h (t:=(X2 D6)) wn u underlying195 a1g u u (T.mono ((V.trans B).trans o)) br fun az aA aB aj=>(lv (q9 (t:=(X2 D6)) underlying195 u aj) (lv (r_m u) (nq ?_)))
   obtain⟨ak,bu,bv⟩:=ob bs
   refine l4 (IW w K [] l [(0,V3 A a b),(1,V6 q1),(5,V3 c d f),(7,V6 m),(8,V6 ak.1),(9,.bool ak.2),(26,V3 q s x),(27,V6 (C.length:Int)),(28,V6 ((y:Nat):Int))] [tail (V3 c d f) 3 1] (i7 ak.1)) ?_ ?_
   ·refine j7 ?_
    obtain⟨cF,bx,bz⟩:=ob bu
    refine qF (fun (al:Nat) (J:Int×Bool)=>IW w K [] l [(0,V3 A a b),(1,V6 q1),(5,V3 c d f),(7,V6 m),(8,V6 J.1),(9,.bool J.2),(26,V3 q s x),(27,V6 (C.length:Int)),(28,V6 ((y:Nat):Int)),(34,V3 az aA aB),(35,V6 (ay.length:Int)),(36,V6 ((al:Nat):Int))] [tail (V3 c d f) 3 1] (i7 J.1)) bx ⟨l,u,Y,kr,ax⟩ ?_ ?_
    ·rintro al J _ bA cG hi116 bB ⟨aC,rfl,O,ab,aD⟩
     refine sr (lv (u7 u u) (ns (C9 u (b8 (by omega)) (j3 (l5 (o4 (j7 (sr ?_))))))))
     obtain⟨cH,bC,bD⟩:=ob bB
     refine li underlying195 a1g (aj.mono ab) bC fun bE bF cI bG bH=>?_
     obtain⟨bI,bJ,bK,rfl,bL⟩:=bG
     have bM:F1 _ bE bF [V3 bI bJ bK]:=bH
     refine lv (y9 a1g u O (bM 0 _ u)) (av u (nr (mv u (mv u (lv (y7 u u) ?_)))))
     obtain⟨bN,bO,bP⟩:=ob bD
     refine lk c6j (b5W F O.enter0 bL (u0 _) bO) ?_
     rintro cJ cK ⟨am,rfl,aE,bQ⟩
     have aF:=(O.c0 aE).t1
     refine mv u (lv (y3 u u) (lv (y3 u u) (av u (av u (ns ?_)))))
     obtain⟨bR,bS,bT⟩:=ob bP
     refine l4 (IV w K [] am [(0,V3 A a b),(1,V6 q1),(5,V3 c d f),(7,V6 m),(9,.bool bR),(12,V6 bN.1),(26,V3 q s x),(27,V6 (C.length:Int)),(28,V6 ((y:Nat):Int)),(34,V3 az aA aB),(35,V6 (ay.length:Int)),(36,V6 ((al:Nat):Int))] [tail (V3 c d f) 3 1]) ?_ ?_
     ·refine j5 (mv u (mv u (bt bS (fun R an=>?_) (fun R an=>?_))))
      ·refine lg R (i5 u) (lv (n9 u R u) (av u (i8 ?_)))
       cases oi an
       exact qd ⟨am,u,aF,kr⟩
      refine lu R (lv (L8 u R u) (av u (i8 ?_)))
      cases oi an
      exact qd ⟨am,u,aF,kr⟩
     rintro _ cL ⟨bU,rfl,bV,bW⟩
     refine l5 (j5 (mv u (av u (nb (qg (lv (B6 u u (C6 hi116 (b7.max aj))) (mv u (i8 ?_))))))))
     cases oi bT
     exact qd ⟨bU,u,bV,((ab.trans aE.le).trans bW),bQ⟩
    rintro J _ bA bX ⟨aC,rfl,O,ab,aD⟩
    subst bX
    refine sr (lv (u7 u u) (ns (C8 u (c6 (by omega)) (y4 (g8 (g8 (l6 ?_)))))))
    cases oi bz
    exact qd ⟨aC,u,O,ab,aD⟩
   rintro _ cM ⟨ao,rfl,aG,S,cN⟩
   refine qs ?_
   obtain⟨bY,bZ,ca⟩:=ob bv
   refine l4 (IV w K [] ao [(0,V3 A a b),(1,V6 q1),(5,V3 c d f),(7,V6 m),(26,V3 q s x),(27,V6 (C.length:Int)),(28,V6 ((y:Nat):Int)),(64,.bool bY)] [tail (V3 c d f) 3 1]) ?_ ?_
   ·refine j5 (mv u (mv u (bt bZ (fun i ap=>?_) (fun i ap=>?_))))
    ·refine lg i (i5 u) (lg i (i5 u) (lg i (i5 u) (lg i (q9 (t:=(X2 D6)) underlying195 u (b7.mono (((V.trans B).trans o).trans S) T)) (lg i (y7 u u) (lg i (I6 u u) (lg i (i5 u) (lg i (y7 u u) (lg i (V2 u u) (lv (n9 u i u) ?_)))))))))
     refine i8 ?_
     cases oi ap
     exact qd ⟨ao,u,aG,kr⟩
    iterate 9 refine lu i ?_
    refine lv (L8 u i u) (i8 ?_)
    cases oi ap
    exact qd ⟨ao,u,aG,kr⟩
   rintro _ cO ⟨cb,rfl,aH,ac⟩
   refine l5 (D5 ca u (fun cc aq=>?_) (fun cc aq=>?_))
   ·refine j5 (mv u (mv u (lb D6 (V6 m) [V6 m] m underlying46 E6 ⟨u,ax⟩ aH fun cP cQ cR aI cd ce=>?_)))
    obtain⟨cS,cf,cg⟩:=ob aq
    refine lp underlying46 E6 (aa.mono ((S.trans ac).trans aI)) cd cf ce.f1 fun ch cj ck cT cl cm cn cp=>(av u (nb (qg (lv (B6 u u (C6 hi77 (b7.max X))) (mv u (i8 ?_))))))
    cases oi cg
    exact qd ⟨ch,cj,ck,cl,u,cp.s,((((o.trans S).trans ac).trans aI).trans cm),cn⟩
   refine j3 (x8 (qg (lv (B6 u u (C6 hi77 (b7.max X))) (mv u (i8 ?_)))))
   cases oi aq
   exact qd ⟨c,d,f,cb,u,aH,((o.trans S).trans ac),(aa.mono (S.trans ac))⟩
  rintro ai _ bi cq ⟨c,d,f,l,rfl,Y,o,aa⟩
  subst cq
  refine sr (lv (u7 u u) (ns (C8 u (c6 (by omega)) (y4 (g8 (g8 (l6 ?_)))))))
  cases oi bh
  exact qd ⟨c,d,f,l,u,Y,o,aa⟩
 rintro _ cU ⟨D,G,H,I,rfl,cr,cV,cs⟩
 refine qr (mv u (av u (nq (j9 ?_))))
 cases oi bf
 exact ey results167 ⟨D,G,H,I,u,cr,cs⟩

theorem a7U {q0:T0}{q1:q7}{q2:A1}{r:Int}(hS:SH w K Z w K [s7 g1 [V3 A a b,V3 B c d,V3 C f i,V3 D k l] 113])(aQ:b7 D9 K A a b q0.c_.Stops)(aR:b7 L0 K B c d q0.c_.Syns)(bc:b7 F6 K C f i q0.s_.Docs)(bd:b7 B8 K D k l q0.s_.Entries)(du:i7 q1.Kind)(be:q1.Field.length≤maxLen)(bp:b7 D9 K G m n q1.Words)(bq:i7 q1.From)(dv:i7 q1.To)(dw:b7 F4 K H o p q1.Kids)(bf:i7 q2.Id)(dx:b7 K5 K I q s q2.Fields)(dy:b7 N0 K J v x q2.Nums)(hD: ¬dr.D)(hm:W4 F q0 q1 q2=some r):
  Calls prog 127 #[.pointer (some ⟨g1,0,none⟩),.agg #[V6 q1.Kind,sv q1.Field,V3 G m n,V6 q1.From,V6 q1.To,V3 H o p],.agg #[V6 q2.Id,V3 I q s,V3 J v x]] w fun e w'=>∃K',e= .returned (V6 r)∧SH w K Z w' K' [s7 g1 [V3 A a b,V3 B c d,V3 C f i,V3 D k l] 113]∧i7 r:=by
 rw [W4] at hm
 refine ci func127 u ntmps127 (sr (bx u hS fun U dz br=>?_))
 have bs:SH _ _ _ _ _ [s7 U [V6 q1.Kind,sv q1.Field,V3 G m n,V6 q1.From,V6 q1.To,V3 H o p] 35,_]:=br
 refine bx u bs fun ac dA bu=>?_
 have bv:SH _ _ _ _ _ [s7 ac [V6 q2.Id,V3 I q s,V3 J v x] 44,_,_]:=bu
 refine lv (N2 u) (ns ?_)
 have aw:=bv.drew
 refine wh1 (fun w'=>H0 K w'∧B0 g1 [V3 A a b,V3 B c d,V3 C f i,V3 D k l] w'∧B0 U [V6 q1.Kind,sv q1.Field,V3 G m n,V6 q1.From,V6 q1.To,V3 H o p] w') (fun w'=>True) 9 [] mixed ⟨aw.hasK kr,aw.hasObj m2,aw.hasObj m1⟩ (fun _=>trivial) (gt (i5 u) (gt (B7 u) (gt (c7 b2Y u) (gh (fun _ h=>A0 (ds:=[V3 A a b,V3 B c d]) B9 u u u h.2.1) (gt (c7 a0B u) (gh (fun _ h=>B5 W1 u u h.2.2) (gn ?_)))))))
 obtain⟨dB,bz,bA⟩:=ob hm
 refine lk c52 (c0n Tryz.strings_Join_none Tryz.strings_Join aw.enter0 bp hD bz) ?_
 rintro dC dD ⟨dE,rfl,y,bB⟩
 have ax:=(aw.c0 y).t3
 refine i8 (qh ⟨ax.hasK y.le,ax.hasObj m2,ax.hasObj m1⟩ (fun _=>trivial) (gn ?_))
 obtain⟨aS,bC,bD⟩:=ob bA
 refine lk c1J (a2c F ax.enter0 (aQ.mono y.le) (aR.mono y.le) bB bC) ?_
 rintro dF dG ⟨ah,ai,aj,bE,rfl,V,ay⟩
 have az:=(ax.c0 V).t4
 refine i8 (qh ⟨az.hasK (y.le.trans V.le),az.hasObj m3,az.hasObj m2⟩ (fun _=>trivial) (gt (u9 u) (gd' (qs (sr (mv u (lv (q9 underlying104 u ay) (lv (A9 u u) (nq (D5 bD u (fun bF aT=>?_) (fun bF aT=>?_)))))))))))
 ·refine sr (lv (N2 u) (nq (rr ?_)))
  cases oi aT
  exact ey results127 ⟨bE,u,az.s,I5⟩
 refine j3 (qr (a6j (X2 D6) wn u underlying195 a1g az fun bG dH aU R bH bI=>(av u (nr (lv (N2 u) (O7 (mv u (lv (q9 underlying104 u (ay.mono R)) (lv (r_m u) ?_)))))))))
 refine nq ?_
 obtain⟨aV,bJ,bK⟩:=ob aT
 refine l4 (fun E' w'=>∃aD aE aF aG,E'=[(0,pt g1),(4,pt U),(8,V3 aD aE aF),(9,V6 aV.2)]∧SH w K Z w' aG [s7 g1 [V3 A a b,V3 B c d,V3 C f i,V3 D k l] 113,s7 U [V6 q1.Kind,sv q1.Field,V3 G m n,V6 q1.From,V6 q1.To,V3 H o p] 35,tail (V3 aD aE aF) 46 1]∧M0 aU aG∧b7 (X2 D6) aG aD aE aF aV.1∧i7 aV.2) ?_ ?_
 ·refine j7 ?_
  obtain⟨dI,bL,bM⟩:=ob bJ
  have bN:=bI.f2.f3.f4.sb (sk (sk (sk (sk (sd sz)))))
  refine qF (fun (ab:Nat) (ad:(List (List Int))×Int) E' w'=>∃W X Y ak,E'=[(0,pt g1),(4,pt U),(5,pt ac),(7,V3 ah ai aj),(8,V3 W X Y),(9,V6 ad.2),(28,V3 ah ai aj),(29,V6 (aS.length:Int)),(30,V6 ((ab:Nat):Int))]∧SH w K Z w' ak [s7 g1 [V3 A a b,V3 B c d,V3 C f i,V3 D k l] 113,s7 U [V6 q1.Kind,sv q1.Field,V3 G m n,V6 q1.From,V6 q1.To,V3 H o p] 35,s7 ac [V6 q2.Id,V3 I q s,V3 J v x] 44,tail (V3 W X Y) 46 1]∧M0 aU ak∧b7 (X2 D6) ak W X Y ad.1∧i7 ad.2) bL ⟨bG,0,0,aU,u,bN,kr,bH,I5⟩ ?_ ?_
  ·rintro ab ad _ bO dJ hi110 bP ⟨W,X,Y,ak,rfl,aH,O,aW,bg⟩
   refine sr (lv (u7 u u) (ns (C9 u (b8 (by omega)) (j3 (l5 (o4 (j7 (sr (mv u ?_)))))))))
   obtain⟨S,bQ,bR⟩:=ob bP
   refine li underlying104 M3 (ay.mono (R.trans O)) bQ fun bS bT dK bU bV=>?_
   obtain⟨rfl,bh,dL⟩:=bU
   have bW:F1 _ bS bT [sv S.Text,V6 S.At]:=bV
   refine lv (F3 M3 u aH bW u) (al M3 aH fun aA dM bX=>?_)
   have bY:SH _ _ _ _ _ [s7 aA [sv [],V6 0] 107,_,_,_,_]:=bX
   refine av u (lw [sv S.Text,V6 S.At] M3 bY fun dN bZ=>(nr (b0 D6 underlying46 E6 bZ fun ca dO dP T cb aI=>(av u (O7 (mv u (fl Z3 u G7 m3 aI u (fl a3Z u G7 m1 aI u (fl P6 u E6 m4 aI u ?_)))))))))
   obtain⟨cc,cd,ce⟩:=ob bR
   have bi:=aI.f2
   refine lk c1x (a2w F bi.e1 (b7.mono ((((y.le.trans V.le).trans R).trans O).trans T) aQ) (b7.mono ((((y.le.trans V.le).trans R).trans O).trans T) aR) (b7.mono ((((y.le.trans V.le).trans R).trans O).trans T) bc) (b7.mono ((((y.le.trans V.le).trans R).trans O).trans T) bd) be bh bf cd) ?_
   rintro dQ dR ⟨cf,cg,ch,aX,rfl,aa,aJ⟩
   have cj:=(bi.c1 aa).t6
   refine lv (q9 underlying46 u aJ) (lv (r_m u) (nq ?_))
   obtain⟨bj,ck,cl⟩:=ob ce
   refine l4 (fun E' w'=>∃am an ao aK,E'=[(0,pt g1),(4,pt U),(5,pt ac),(7,V3 ah ai aj),(8,V3 W X Y),(9,V6 ad.2),(11,pt aA),(12,V3 am an ao),(28,V3 ah ai aj),(29,V6 (aS.length:Int)),(30,V6 ((ab:Nat):Int))]∧SH w K Z w' aK [s7 g1 [V3 A a b,V3 B c d,V3 C f i,V3 D k l] 113,s7 U [V6 q1.Kind,sv q1.Field,V3 G m n,V6 q1.From,V6 q1.To,V3 H o p] 35,s7 ac [V6 q2.Id,V3 I q s,V3 J v x] 44,s7 aA [sv S.Text,V6 S.At] 107,tail (V3 W X Y) 46 1,tail (V3 am an ao) 3 1]∧M0 aX aK∧b7 D6 aK am an ao bj) ?_ ?_
   ·refine j7 ?_
    obtain⟨dS,cm,cn⟩:=ob ck
    refine qF (fun (bk:Nat) (aY:(List Int)) E' w'=>∃ae af ag ap,E'=[(0,pt g1),(4,pt U),(5,pt ac),(7,V3 ah ai aj),(8,V3 W X Y),(9,V6 ad.2),(10,V6 ((ab:Nat):Int)),(11,pt aA),(12,V3 ae af ag),(28,V3 ah ai aj),(29,V6 (aS.length:Int)),(30,V6 ((ab:Nat):Int)),(43,V3 cf cg ch),(44,V6 (cc.length:Int)),(45,V6 ((bk:Nat):Int))]∧SH w K Z w' ap [s7 g1 [V3 A a b,V3 B c d,V3 C f i,V3 D k l] 113,s7 U [V6 q1.Kind,sv q1.Field,V3 G m n,V6 q1.From,V6 q1.To,V3 H o p] 35,s7 ac [V6 q2.Id,V3 I q s,V3 J v x] 44,s7 aA [sv S.Text,V6 S.At] 107,tail (V3 W X Y) 46 1,tail (V3 ae af ag) 3 1]∧M0 aX ap∧b7 D6 ap ae af ag aY) cm ⟨ca,0,0,aX,u,cj.f1.f5.f3.f5.f5.f5,kr,(cb.mono aa.le)⟩ ?_ ?_
    ·rintro bk aY _ cp dT hi180 cq ⟨ae,af,ag,ap,rfl,aL,aq,aM⟩
     refine sr (lv (u7 u u) (ns (C9 u (b8 (by omega)) (j3 (l5 (o4 (j7 (sr ?_))))))))
     obtain⟨aN,cr,cs⟩:=ob cq
     refine li underlying46 E6 (aJ.mono aq) cr fun ct cu dU cv cw=>?_
     obtain⟨rfl,dV⟩:=cv
     have cx:F1 _ ct cu [V6 aN]:=cw
     refine lv (y9 E6 u aL (cx 0 _ u)) (av u (ns (D4 mixed (by kernel_rfl) aL (km u (kv (c7 a30 u) (kh (z6 E6 u m3 u) (km u ?_)))))))
     obtain⟨aB,cy,cz⟩:=ob cs
     refine ki underlying104 M3 (b7.mono ((((R.trans O).trans T).trans aa.le).trans aq) ay) cy fun cA cB dW cC cD=>?_
     obtain⟨rfl,dX,dY⟩:=cC
     have cE:F1 _ cA cB [sv aB.Text,V6 aB.At]:=cD
     refine kv (c7 a30 u) (kh (C1 E6 u (cE 1 _ u)) (kv (I6 u u) (km u (kv (I6 u u) (kv (I6 u u) (kv (u9 u) (B4 ?_)))))))
     rintro dZ ⟨cF,bl,aO⟩
     refine qr (mv u (lv (a3B u u) (nq (D5 cz u (fun cG aZ=>?_) (fun cG aZ=>?_)))))
     ·refine j5 (mv u (mv u (lb D6 (V6 (z8 (aN-(z8 ((z8 (S.At-aB.At))-((ab:Nat):Int)))))) [V6 (z8 (aN-(z8 ((z8 (S.At-aB.At))-((ab:Nat):Int)))))] (z8 (aN-(z8 ((z8 (S.At-aB.At))-((ab:Nat):Int))))) underlying46 E6 ⟨u,(u0 _)⟩ bl fun ea eb ec bm cH cI=>?_)))
      obtain⟨ed,cJ,cK⟩:=ob aZ
      refine lp underlying46 E6 (aM.mono (aO.trans bm)) cH cJ cI.f6 fun cL cM cN ee cO cP cQ cR=>(av u (nb (qg (lv (B6 u u (C6 hi180 (b7.max aJ))) (mv u (i8 ?_))))))
      cases oi cK
      exact qd ⟨cL,cM,cN,cO,u,cR.f6.f6.f6.f6.f6.s,(((aq.trans aO).trans bm).trans cP),cQ⟩
     refine j3 (x8 (qg (lv (B6 u u (C6 hi180 (b7.max aJ))) (mv u (i8 ?_)))))
     cases oi aZ
     exact qd ⟨ae,af,ag,cF,u,bl,(aq.trans aO),(aM.mono aO)⟩
    rintro aY _ cp cS ⟨ae,af,ag,ap,rfl,aL,aq,aM⟩
    subst cS
    refine sr (lv (u7 u u) (ns (C8 u (c6 (by omega)) (y4 (g8 (g8 (l6 ?_)))))))
    cases oi cn
    exact qd ⟨ae,af,ag,ap,u,aL,aq,aM⟩
   rintro _ ef ⟨am,an,ao,aK,rfl,cT,ar,cU⟩
   refine qr (mv u (mv u (lb (X2 D6) (V3 am an ao) [V3 am an ao] bj underlying195 a1g ⟨_,_,_,u,cU⟩ cT fun eg eh ei au cV cW=>?_)))
   obtain⟨ej,cX,cY⟩:=ob cl
   refine lp underlying195 a1g (b7.mono (((T.trans aa.le).trans ar).trans au) aW) cV cX cW.f5 fun cZ da db ek el aC dc aP=>(av u (nq (j5 (mv u (mv u (fl Z3 u G7 m3 aP u (fl a3Z u G7 m5 aP u (fl P6 u E6 m4 aP u ?_))))))))
   obtain⟨em,dd,de⟩:=ob cY
   have bn:=aP.f2
   refine lk c4B (a2x F bn.e1 (b7.mono ((((((((y.le.trans V.le).trans R).trans O).trans T).trans aa.le).trans ar).trans au).trans aC) aQ) (b7.mono ((((((((y.le.trans V.le).trans R).trans O).trans T).trans aa.le).trans ar).trans au).trans aC) aR) (b7.mono ((((((((y.le.trans V.le).trans R).trans O).trans T).trans aa.le).trans ar).trans au).trans aC) bc) (b7.mono ((((((((y.le.trans V.le).trans R).trans O).trans T).trans aa.le).trans ar).trans au).trans aC) bd) be bh bf dd) ?_
   rintro en eo ⟨df,rfl,ba,ep⟩
   have dg:=(bn.c1 ba).t7
   refine lv (y7 u u) (av u (nb (qg (lv (B6 u u (C6 hi110 (b7.max (ay.mono R)))) (mv u (i8 ?_))))))
   cases oi de
   exact qd ⟨cZ,da,db,df,u,dg.f1.f4.f4.f3.s,((((((O.trans T).trans aa.le).trans ar).trans au).trans aC).trans ba.le),(dc.mono ba.le),(u0 _)⟩
  rintro ad _ bO dh ⟨W,X,Y,ak,rfl,aH,O,aW,bg⟩
  subst dh
  refine sr (lv (u7 u u) (ns (C8 u (c6 (by omega)) (y4 (g8 (g8 (l6 ?_)))))))
  cases oi bM
  exact qd ⟨W,X,Y,ak,u,aH.s,O,aW,bg⟩
 rintro _ eq ⟨aD,aE,aF,aG,rfl,bb,es,di,et⟩
 refine qr (mv u (fl a1w u E6 m1 bb u ?_))
 obtain⟨eu,dj,dk⟩:=ob bK
 refine lk c53 (b1s F bb.enter0 di bq dj) ?_
 rintro ev ew ⟨ex,eA,eB,dl,rfl,dm,dn⟩
 have dp:=(bb.c0 dm).t4
 refine lv (q9 underlying46 u dn) (lv (b9y u u) (mv u (lv (U4 u u) ?_)))
 obtain⟨eC,dq,dt⟩:=ob dk
 have bo:=oi dq
 refine lv (b9v u (congrArg (Value.int .i64) bo)) (nq (j9 ?_))
 cases oi dt
 exact ey results127 ⟨dl,u,dp.s,(c1r bo (u0 _))⟩

theorem a5s (F:Nat): ∀{w:World} {K:F9} {g1:Nat} {a:Option Addr} {b c:Nat} {d:Option Addr} {f i:Nat} {k:Option Addr} {l m:Nat} {o:Option Addr} {q s:Nat} {O:Option Addr} {R S:Nat} {G:Option Addr} {H I:Nat} {x:Option Addr} {y A:Nat} {B:Option Addr} {C D:Nat} {q0:T0} {q1:q7} {q2:A1} {r:Int} (hS:SH w K (List.flatMap F5.gs [s7 g1 [V3 a b c,V3 d f i,V3 k l m,V3 o q s] 113]) w K [s7 g1 [V3 a b c,V3 d f i,V3 k l m,V3 o q s] 113]) (W:b7 D9 K a b c q0.c_.Stops) (X:b7 L0 K d f i q0.c_.Syns) (aa:b7 F6 K k l m q0.s_.Docs) (ab:b7 B8 K o q s q0.s_.Entries) (bM:i7 q1.Kind) (af:q1.Field.length≤maxLen) (aC:b7 D9 K O R S q1.Words) (aK:i7 q1.From) (aX:i7 q1.To) (aj:b7 F4 K G H I q1.Kids) (ac:i7 q2.Id) (ak:b7 K5 K x y A q2.Fields) (am:b7 N0 K B C D q2.Nums) (hD: ¬dr.D) (hm:E4 F q0 q1 q2=some r),
  Calls prog 70 #[.pointer (some ⟨g1,0,none⟩),.agg #[V6 q1.Kind,sv q1.Field,V3 O R S,V6 q1.From,V6 q1.To,V3 G H I],.agg #[V6 q2.Id,V3 x y A,V3 B C D]] w fun e w'=>∃K',e= .returned (V6 r)∧SH w K (List.flatMap F5.gs [s7 g1 [V3 a b c,V3 d f i,V3 k l m,V3 o q s] 113]) w' K' [s7 g1 [V3 a b c,V3 d f i,V3 k l m,V3 o q s] 113]∧i7 r:=by
 induction F with
 | zero=>intros;rename_i hm;rw [E4] at hm;cases hm
 | succ F ih=>
  intro w K g1 a b c d f i k l m o q s O R S G H I x y A B C D q0 q1 q2 r hS W X aa ab bM af aC aK aX aj ac ak am hD hm
  rw [E4] at hm
  refine ci func70 u ntmps70 (sr (bx u hS fun J hn cU=>?_))
  have cV:SH _ _ _ _ _ [s7 J [V6 q1.Kind,sv q1.Field,V3 O R S,V6 q1.From,V6 q1.To,V3 G H I] 35,_]:=cU
  refine bx u cV fun T ho cW=>?_
  have U:SH _ _ _ _ _ [s7 T [V6 q2.Id,V3 x y A,V3 B C D] 44,_,_]:=cW
  refine lv (N2 u) (O7 (fl a6x u E6 m1 U u (nq (j7 (sr (lv (A9 u u) (av u (nq (R9 u (fun aY=>?_) (fun aY=>?_))))))))))
  ·have aZ:=a1a aY hm
   refine sr (lv (u9 (v:=V6 100) u) (nq (j9 (i9 (c9 ?_)))))
   cases oi aZ
   exact ey results70 ⟨K,u,U.s,(by decide :i7 100)⟩
  have aZ:=a09 aY hm
  refine sr (lv (A9 u u) (av u (nq (D5 aZ u (fun cX ba=>?_) (fun cX ba=>?_)))))
  ·refine o4 ?_
   have aB:=U.drew
   refine j_0 (fun w'=>H0 K w'∧B0 J [V6 q1.Kind,sv q1.Field,V3 O R S,V6 q1.From,V6 q1.To,V3 G H I] w'∧B0 g1 [V3 a b c,V3 d f i,V3 k l m,V3 o q s] w'∧B0 T [V6 q2.Id,V3 x y A,V3 B C D] w') 16 [] mixed ⟨aB.hasK kr,aB.hasObj m1,aB.hasObj m2,aB.hasObj m0⟩ (jv 0 u (i5 u) (jv 1 u (c7 Z3 u) (jh 2 u (fun _ h=>B5 G7 u u h.2.1) (jv 3 u (i5 u) (jv 4 u (B7 u) (jv 5 u (c7 b2Y u) (jh 6 u (fun _ h=>A0 (ds:=[V3 a b c,V3 d f i]) B9 u u u h.2.2.1) (jv 7 u (c7 a0B u) (jh 8 u (fun _ h=>B5 W1 u u h.2.1) ?_)))))))))
   obtain⟨cY,cZ,da⟩:=ob ba
   refine ji 9 u underlying23 G7 aC cZ fun db dc hp dd de=>?_
   obtain⟨rfl,df⟩:=dd
   have dg:F1 _ db dc [sv cY]:=de
   refine jh 10 u (fun _ h=>a0Y G7 u (dg 0 _ u) h.1) (jv 12 u (c7 P6 u) (jh 13 u (fun _ h=>B5 E6 u u h.2.2.2) (j1 11 u ?_)))
   obtain⟨hq,dh,di⟩:=ob da
   refine lk c2P (a4y F aB.enter0 W X df dh) ?_
   rintro hr ht ⟨hu,rfl,aq,dj⟩
   have aD:=(aB.c0 aq).t3
   refine P0 ⟨aD.hasK aq.le,aD.hasObj m1,aD.hasObj m2,aD.hasObj m0⟩ (j1 14 u ?_)
   obtain⟨hv,dk,dl⟩:=ob di
   have bN:=aD.f2
   refine lk c4B (a2x F bN.e1 (W.mono aq.le) (X.mono aq.le) (aa.mono aq.le) (ab.mono aq.le) af dj ac dk) ?_
   rintro hw hx ⟨dm,rfl,bO,dn⟩
   have aE:=(bN.c1 bO).t3
   refine P0 ⟨aE.hasK (aq.le.trans bO.le),aE.hasObj m2,aE.hasObj m0,aE.hasObj m1⟩ (jv 15 u (u9 u) (jd (l5 (j9 (i9 (c9 ?_))))))
   cases oi dl
   exact ey results70 ⟨dm,u,aE.s,dn⟩
  refine sr (lv (A9 u u) (av u (nq (D5 ba u (fun dp bb=>?_) (fun dp bb=>?_)))))
  ·refine sr (mv u (lv (j6 (ds:=[V6 q1.Kind,sv q1.Field,V3 O R S,V6 q1.From,V6 q1.To,V3 G H I]) B1 u m1 U u u) (lv (j6 (ds:=[V6 q2.Id,V3 x y A,V3 B C D]) E8 u m0 U u u) ?_)))
   obtain⟨hy,dq,dt⟩:=ob bb
   have bP:=U.f2
   refine lk c5E (a7U F bP.e1 W X aa ab bM af aC aK aX aj ac ak am hD dq) ?_
   rintro hz hA ⟨du,rfl,dv,dw⟩
   have dx:=(bP.c1 dv).t3
   refine av u (nq (j9 (i9 (c9 ?_))))
   cases oi dt
   exact ey results70 ⟨du,u,dx.s,dw⟩
  refine sr (lv (A9 u u) (av u (nq (D5 bb u (fun dy bc=>?_) (fun dy bc=>?_)))))
  ·refine sr (lv (N2 u) (ns (o4 ?_)))
   have bd:=U.drew
   refine j_0 (fun w'=>H0 K w'∧B0 J [V6 q1.Kind,sv q1.Field,V3 O R S,V6 q1.From,V6 q1.To,V3 G H I] w') 8 [] mixed ⟨bd.hasK kr,bd.hasObj m1⟩ (jv 0 u (i5 u) (jv 1 u (B7 u) (jv 2 u (c7 a6n u) (jv 3 u (c7 Z3 u) (jh 4 u (fun _ h=>B5 G7 u u h.2) (jv 7 u (r_m u) (j1 5 u ?_)))))))
   obtain⟨dz,dA,dB⟩:=ob bc
   have bQ:=bd.f2
   refine lk c4E (a1J F bQ.e1 W X aa ab af dA) ?_
   rintro hB hC ⟨dC,dD,dE,be,rfl,ar,aL⟩
   have bf:=(bQ.c1 ar).t4
   refine P0 ⟨bf.hasK ar.le,bf.hasObj m3⟩ (jv 6 u (q9 underlying23 u aL) (jd (l5 ?_)))
   obtain⟨bR,dF,dG⟩:=ob dB
   refine l4 (IW w K (List.flatMap F5.gs [s7 g1 [V3 a b c,V3 d f i,V3 k l m,V3 o q s] 113]) be [(0,pt g1),(7,V6 bR)] [s7 g1 [V3 a b c,V3 d f i,V3 k l m,V3 o q s] 113] (i7 bR)) ?_ ?_
   ·refine j7 ?_
    obtain⟨hE,dH,dI⟩:=ob dF
    have dJ:=bf.f2.f3.f3.sb (sk (sk (sk (sd sz))))
    refine qF (fun (bS:Nat) (aM:Int)=>IW w K (List.flatMap F5.gs [s7 g1 [V3 a b c,V3 d f i,V3 k l m,V3 o q s] 113]) be [(0,pt g1),(4,pt J),(5,pt T),(7,V6 aM),(51,V3 dC dD dE),(52,V6 (dz.length:Int)),(53,V6 ((bS:Nat):Int))] [s7 g1 [V3 a b c,V3 d f i,V3 k l m,V3 o q s] 113,s7 J [V6 q1.Kind,sv q1.Field,V3 O R S,V6 q1.From,V6 q1.To,V3 G H I] 35,s7 T [V6 q2.Id,V3 x y A,V3 B C D] 44] (i7 aM)) dH ⟨be,u,dJ,kr,I5⟩ ?_ ?_
    ·rintro bS aM _ dK hF hi137 dL ⟨bT,rfl,au,ad,aN⟩
     refine sr (lv (u7 u u) (ns (C9 u (b8 (by omega)) (j3 (l5 (o4 (j7 (sr ?_))))))))
     obtain⟨dM,dN,dO⟩:=ob dL
     refine li underlying23 G7 (aL.mono ad) dN fun dP dQ hG dR dS=>?_
     obtain⟨rfl,bU⟩:=dR
     have dT:F1 _ dP dQ [sv dM]:=dS
     refine lv (y9 G7 u au (dT 0 _ u)) (av u (nr (mv u (fl a0B u W1 m1 au u ?_))))
     obtain⟨dU,dV,dW⟩:=ob dO
     refine li underlying23 G7 (aC.mono (ar.le.trans ad)) dV fun dX dY hH dZ ea=>?_
     obtain⟨rfl,eb⟩:=dZ
     have ec:F1 _ dX dY [sv dU]:=ea
     refine lv (y9 G7 u au (ec 0 _ u)) ?_
     obtain⟨hI,ed,ee⟩:=ob dW
     refine lk c6y (a7F F au.enter0 bU eb ed) ?_
     rintro hJ hK ⟨hL,rfl,aw,ef⟩
     have bg:=(au.c0 aw).t3
     refine av u (nr (mv u (fl a1w u E6 m1 bg u ?_)))
     obtain⟨hM,eg,eh⟩:=ob ee
     refine lk a5x (E2 F bg.enter0 ef I5 aK eg) ?_
     rintro hN hO ⟨ei,rfl,ax⟩
     have aF:=(bg.c0 ax).t3
     refine nq (D5 eh u (fun ej bh=>?_) (fun ej bh=>?_))
     ·refine j5 (mv u (mv u (fl Z3 u G7 m1 aF u (mv u (fl P6 u E6 m2 aF u ?_)))))
      obtain⟨hP,ek,el⟩:=ob bh
      refine lk c4B (a2x F aF.e1 (b7.mono (((ar.le.trans ad).trans aw.le).trans ax.le) W) (b7.mono (((ar.le.trans ad).trans aw.le).trans ax.le) X) (b7.mono (((ar.le.trans ad).trans aw.le).trans ax.le) aa) (b7.mono (((ar.le.trans ad).trans aw.le).trans ax.le) ab) af bU ac ek) ?_
      rintro hQ hR ⟨em,rfl,bV,hT⟩
      have en:=(aF.c1 bV).t3
      refine mv u (lv (I6 u u) (lv (U4 u u) ?_))
      obtain⟨hU,bW,eo⟩:=ob el
      refine lv (a4D u u bW) (lv (b9x u u) (av u (nb (qg (lv (B6 u u (C6 hi137 (b7.max aL))) (mv u (i8 ?_)))))))
      cases oi eo
      exact qd ⟨em,u,en,(((ad.trans aw.le).trans ax.le).trans bV.le),(b9q aN (a32 bW))⟩
     refine j3 (x8 (qg (lv (B6 u u (C6 hi137 (b7.max aL))) (mv u (i8 ?_)))))
     cases oi bh
     exact qd ⟨ei,u,aF,((ad.trans aw.le).trans ax.le),aN⟩
    rintro aM _ dK ep ⟨bT,rfl,au,ad,aN⟩
    subst ep
    refine sr (lv (u7 u u) (ns (C8 u (c6 (by omega)) (y4 (g8 (g8 (l6 ?_)))))))
    cases oi dI
    exact qd ⟨bT,u,au.s,ad,aN⟩
   rintro _ hV ⟨eq,rfl,es,hW,et⟩
   refine qr (mv u (av u (nq (j9 (i9 (c9 ?_))))))
   cases oi dG
   exact ey results70 ⟨eq,u,es,et⟩
  refine sr (lv (A9 u u) (av u (nq (D5 bc u (fun eu bi=>?_) (fun eu bi=>?_)))))
  ·refine o4 (o4 ?_)
   have bj:=U.drew
   refine j_0 (fun w'=>H0 K w'∧B0 J [V6 q1.Kind,sv q1.Field,V3 O R S,V6 q1.From,V6 q1.To,V3 G H I] w') 8 [] mixed ⟨bj.hasK kr,bj.hasObj m1⟩ (jv 0 u (i5 u) (jv 1 u (B7 u) (jv 2 u (c7 a6n u) (jv 3 u (c7 Z3 u) (jh 4 u (fun _ h=>B5 G7 u u h.2) (jv 7 u (r_m u) (j1 5 u ?_)))))))
   obtain⟨bX,ev,ew⟩:=ob bi
   have bY:=bj.f2
   refine lk c4E (a1J F bY.e1 W X aa ab af ev) ?_
   rintro hX hY ⟨bZ,ca,cb,bk,rfl,ay,bl⟩
   have bm:=(bY.c1 ay).t4
   refine P0 ⟨bm.hasK ay.le,bm.hasObj m3⟩ (jv 6 u (q9 underlying23 u bl) (jd (l5 ?_)))
   obtain⟨ex,eA,aO⟩:=ob ew
   refine l4 (IE ex w K (List.flatMap F5.gs [s7 g1 [V3 a b c,V3 d f i,V3 k l m,V3 o q s] 113]) bk [(0,pt g1)] [s7 g1 [V3 a b c,V3 d f i,V3 k l m,V3 o q s] 113]) ?_ ?_
   ·refine j7 ?_
    obtain⟨hZ,eB,cc⟩:=ob eA
    have eC:=bm.f2.f3.f3.sb (sk (sk (sk (sd sz))))
    refine qf (fun (bn:Nat) (cd:Unit)=>IV w K (List.flatMap F5.gs [s7 g1 [V3 a b c,V3 d f i,V3 k l m,V3 o q s] 113]) bk [(0,pt g1),(4,pt J),(5,pt T),(89,V3 bZ ca cb),(90,V6 (bX.length:Int)),(91,V6 ((bn:Nat):Int))] [s7 g1 [V3 a b c,V3 d f i,V3 k l m,V3 o q s] 113,s7 J [V6 q1.Kind,sv q1.Field,V3 O R S,V6 q1.From,V6 q1.To,V3 G H I] 35,s7 T [V6 q2.Id,V3 x y A,V3 B C D] 44]) eB ⟨bk,u,eC,kr⟩ ?_ ?_
    ·rintro bn cd _ eD ia hi232 eE eF ⟨bo,rfl,az,ag⟩
     refine sr (lv (u7 u u) (ns (C9 u (b8 (by omega)) (j3 (l5 (o4 (j7 (sr ?_))))))))
     obtain⟨ce,eG,eH⟩:=ob eE
     refine li underlying23 G7 (bl.mono ag) eG fun eI eJ ib eK eL=>?_
     obtain⟨rfl,cf⟩:=eK
     have eM:F1 _ eI eJ [sv ce]:=eL
     refine lv (y9 G7 u az (eM 0 _ u)) (av u (ns ?_))
     obtain⟨eN,eO,eP⟩:=ob eH
     refine l4 (IV w K (List.flatMap F5.gs [s7 g1 [V3 a b c,V3 d f i,V3 k l m,V3 o q s] 113]) bo [(0,pt g1),(4,pt J),(5,pt T),(89,V3 bZ ca cb),(90,V6 (bX.length:Int)),(91,V6 ((bn:Nat):Int)),(111,.bool eN)] [s7 g1 [V3 a b c,V3 d f i,V3 k l m,V3 o q s] 113,s7 J [V6 q1.Kind,sv q1.Field,V3 O R S,V6 q1.From,V6 q1.To,V3 G H I] 35,s7 T [V6 q2.Id,V3 x y A,V3 B C D] 44]) ?_ ?_
     ·refine j5 (fl a0B u W1 m1 az u ?_)
      obtain⟨eQ,eR,eS⟩:=ob eO
      refine li underlying23 G7 (aC.mono (ay.le.trans ag)) eR fun eT eU ic eV eW=>?_
      obtain⟨rfl,eX⟩:=eV
      have eY:F1 _ eT eU [sv eQ]:=eW
      refine lv (y9 G7 u az (eY 0 _ u)) (mv u ?_)
      obtain⟨ie,eZ,fb⟩:=ob eS
      refine lk c6W (b2v F az.enter0 eX cf eZ) ?_
      rintro ig ii ⟨fc,rfl,aA⟩
      have aG:=(az.c0 aA).t3
      refine mv u (bt fb (fun V bp=>?_) (fun V bp=>?_))
      ·refine lg V (i5 u) (lg V (c7 Z3 u) (lg V (w8 G7 u m1 aG u) (lg V (i5 u) (lg V (c7 P6 u) (lg V (w8 E6 u m2 aG u) ?_)))))
       obtain⟨ij,fd,fe⟩:=ob bp
       refine A3 (wg u u V) u (A2 (vs:=[pt g1,sv q1.Field,sv ce,V6 q2.Id]) c1x u) (a2w F aG.e1 (W.mono ((ay.le.trans ag).trans aA.le)) (X.mono ((ay.le.trans ag).trans aA.le)) (aa.mono ((ay.le.trans ag).trans aA.le)) (ab.mono ((ay.le.trans ag).trans aA.le)) af cf ac fd) ?_
       rintro ik il ⟨im,io,ip,fg,rfl,cg,fh⟩
       refine⟨_,u,?_⟩
       have fi:=(aG.c1 cg).t3
       refine lg V (q9 underlying46 u fh) (lg V (E7 u u) (lv (n9 u V u) (i8 ?_)))
       cases oi fe
       exact qd ⟨fg,u,fi,(aA.le.trans cg.le)⟩
      iterate 9 refine lu V ?_
      refine lv (L8 u V u) (i8 ?_)
      cases oi bp
      exact qd ⟨fc,u,aG,aA.le⟩
     rintro _ iq ⟨ch,rfl,cj,fj⟩
     refine l5 (D5 eP u (fun fk bq=>?_) (fun fk bq=>?_))
     ·refine sr (lv (u9 (v:=V6 100) u) (nq (j9 (i9 (c9 (c9 ?_))))))
      cases oi bq
      cases eF _ u
      refine i9 (c9 ?_)
      cases oi cc
      refine c9 (i9 (c9 ?_))
      cases oi aO
      exact ey results70 ⟨ch,u,cj.s,(by decide :i7 100)⟩
     refine j3 (x8 (qg (lv (B6 u u (C6 hi232 (b7.max bl))) (mv u (i8 ?_)))))
     cases oi bq
     exact qd ⟨_,u,ch,u,cj,(ag.trans fj)⟩
    rintro cd _ eD fm ⟨bo,rfl,az,ag⟩
    subst fm
    refine sr (lv (u7 u u) (ns (C8 u (c6 (by omega)) (y4 (g8 (g8 (l6 ?_)))))))
    cases oi cc
    exact qd ⟨_,bo,u,u,az.s,ag⟩
   rintro _ ir ⟨it,fn,rfl,rfl,fo,iu⟩
   have aO:=E9 aO
   refine qr (lv (N2 u) (nq (j9 (i9 (c9 ?_)))))
   cases oi aO
   exact ey results70 ⟨fn,u,fo,I5⟩
  refine sr (lv (A9 u u) (av u (nq (D5 bi u (fun fp br=>?_) (fun fp br=>?_)))))
  ·refine o4 (o4 (D4 mixed (by kernel_rfl) U (kh (D8 (ds:=[V6 q2.Id,V3 x y A,V3 B C D]) E8 u m0 u u) (kv (c7 Z3 u) (kh (z6 G7 u m1 u) ?_)))))
   obtain⟨iv,ck,fq⟩:=ob br
   refine kd c6Y (fun _ _ fr cl=>(a8r F) fr.enter0 ac (ak.mono cl) (am.mono cl) af ck) ?_
   obtain⟨_,_,_,⟨_,_,_,fs⟩,_⟩:=(a8r F) U.enter0 ac ak am af ck []
   refine kv (c7 a1w u) (kh (z6 E6 u m1 u) (kv (c7 a4L u) (kh (z6 E6 u m1 u) ?_)))
   obtain⟨iw,ft,fu⟩:=ob fq
   refine kc a5x (fun _ _ fv ix=>(E2 F) fv.enter0 fs aK aX ft) (B4 ?_)
   rintro iy ⟨cm,cn,iz⟩
   refine l5 (D5 fu u (fun fw bs=>?_) (fun fw bs=>?_))
   ·refine sr (lv (u9 (v:=V6 100) u) (nq (rr (i9 (c9 ?_)))))
    cases oi bs
    exact ey results70 ⟨cm,u,cn.s,(by decide :i7 100)⟩
   refine j3 (qr (lv (N2 u) (nq (j9 (i9 (c9 ?_))))))
   cases oi bs
   exact ey results70 ⟨cm,u,cn.s,I5⟩
  refine sr (lv (A9 u u) (av u (nq (D5 br u (fun fx bu=>?_) (fun fx bu=>?_)))))
  ·refine o4 ?_
   have aP:=U.drew
   refine wh1 (fun w'=>H0 K w'∧B0 J [V6 q1.Kind,sv q1.Field,V3 O R S,V6 q1.From,V6 q1.To,V3 G H I] w'∧B0 T [V6 q2.Id,V3 x y A,V3 B C D] w') (fun w'=>True) 11 [] mixed ⟨aP.hasK kr,aP.hasObj m1,aP.hasObj m0⟩ (fun _=>trivial) (gt (c7 a1w u) (gh (fun _ h=>B5 E6 u u h.2.1) (gt (i5 u) (gt (c7 W9 u) (gh (fun _ h=>B5 a5u u u h.2.1) ?_)))))
   obtain⟨an,fy,fz⟩:=ob bu
   refine gi underlying33 B1 aj fy fun fA fB iA fC fD=>?_
   obtain⟨cp,cq,cr,ct,cu,cv,rfl,fE,fF,fG,fH,fI,fJ⟩:=S9 fC
   have fK:F1 _ fA fB [V6 an.Kind,sv an.Field,V3 cp cq cr,V6 an.From,V6 an.To,V3 ct cu cv]:=fD
   refine gh (fun _ h=>a67 (cs:=[V6 an.Kind,sv an.Field,V3 cp cq cr,V6 an.From,V6 an.To,V3 ct cu cv]) B1 u fK u h.1) (gh (fun _ h=>A0 (ds:=[V6 q2.Id,V3 x y A,V3 B C D]) E8 u u u h.2.2) (gn ?_))
   obtain⟨iB,fL,fM⟩:=ob fz
   have cw:=aP.f2
   refine lk b9V (ih cw.e1 W X aa ab fE fF fG fH fI fJ ac ak am hD fL) ?_
   rintro iC iD ⟨fN,rfl,cx,iE⟩
   have aQ:=(cw.c1 cx).t3
   refine i8 (qh ⟨aQ.hasK cx.le,aQ.hasObj m2,aQ.hasObj m1⟩ (fun _=>trivial) (gt (U4 u u) (gt (u9 u) (gd' (l5 (j9 (i9 (c9 ?_))))))))
   cases oi fM
   exact ey results70 ⟨fN,u,aQ.s,(u0 _)⟩
  refine sr (lv (A9 u u) (av u (nq (D5 bu u (fun fO bv=>?_) (fun fO bv=>?_)))))
  ·refine o4 (o4 ?_)
   have aR:=U.drew
   refine wh1 (fun w'=>H0 K w'∧B0 J [V6 q1.Kind,sv q1.Field,V3 O R S,V6 q1.From,V6 q1.To,V3 G H I] w'∧B0 T [V6 q2.Id,V3 x y A,V3 B C D] w') (fun w'=>True) 8 [] mixed ⟨aR.hasK kr,aR.hasObj m1,aR.hasObj m0⟩ (fun _=>trivial) (gt (i5 u) (gt (c7 W9 u) (gh (fun _ h=>B5 a5u u u h.2.1) ?_)))
   obtain⟨ao,fP,fQ⟩:=ob bv
   refine gi underlying33 B1 aj fP fun fR fS iF fT fU=>?_
   obtain⟨cy,cz,cA,cB,cC,cD,rfl,fV,fW,fX,fY,fZ,ga⟩:=S9 fT
   have gb:F1 _ fR fS [V6 ao.Kind,sv ao.Field,V3 cy cz cA,V6 ao.From,V6 ao.To,V3 cB cC cD]:=fU
   refine gh (fun _ h=>a67 (cs:=[V6 ao.Kind,sv ao.Field,V3 cy cz cA,V6 ao.From,V6 ao.To,V3 cB cC cD]) B1 u gb u h.1) (gh (fun _ h=>A0 (ds:=[V6 q2.Id,V3 x y A,V3 B C D]) E8 u u u h.2.2) (gn ?_))
   obtain⟨iG,gc,gd⟩:=ob fQ
   have cE:=aR.f2
   refine lk b9V (ih cE.e1 W X aa ab fV fW fX fY fZ ga ac ak am hD gc) ?_
   rintro iH iI ⟨cF,rfl,ah,iJ⟩
   have aH:=(cE.c1 ah).t3
   refine i8 (qh ⟨aH.hasK ah.le,aH.hasObj m2,aH.hasObj m1⟩ (fun _=>trivial) (gt (E7 u u) (gd' (l5 (D5 gd u (fun ge bz=>?_) (fun ge bz=>?_))))))
   ·refine sr (lv (N2 u) (nq (rr (i9 (c9 ?_)))))
    cases oi bz
    exact ey results70 ⟨cF,u,aH.s,I5⟩
   refine j3 (qs ?_)
   have aI:=aH.drew
   refine wh1 (fun w'=>H0 cF w'∧B0 J [V6 q1.Kind,sv q1.Field,V3 O R S,V6 q1.From,V6 q1.To,V3 G H I] w'∧B0 T [V6 q2.Id,V3 x y A,V3 B C D] w') (fun w'=>True) 8 [] mixed ⟨aI.hasK kr,aI.hasObj m2,aI.hasObj m1⟩ (fun _=>trivial) (gt (i5 u) (gt (c7 W9 u) (gh (fun _ h=>B5 a5u u u h.2.1) ?_)))
   obtain⟨ap,gg,gj⟩:=ob bz
   refine gi underlying33 B1 (aj.mono ah.le) gg fun gk gl iK gm go=>?_
   obtain⟨cG,cH,cI,cJ,cK,cL,rfl,gp,gq,gr,gv,gw,gx⟩:=S9 gm
   have gy:F1 _ gk gl [V6 ap.Kind,sv ap.Field,V3 cG cH cI,V6 ap.From,V6 ap.To,V3 cJ cK cL]:=go
   refine gh (fun _ h=>a67 (cs:=[V6 ap.Kind,sv ap.Field,V3 cG cH cI,V6 ap.From,V6 ap.To,V3 cJ cK cL]) B1 u gy u h.1) (gh (fun _ h=>A0 (ds:=[V6 q2.Id,V3 x y A,V3 B C D]) E8 u u u h.2.2) (gn ?_))
   obtain⟨iL,gz,gA⟩:=ob gj
   refine lk b9V (ih aI.e1 (W.mono ah.le) (X.mono ah.le) (aa.mono ah.le) (ab.mono ah.le) gp gq gr gv gw gx ac (ak.mono ah.le) (am.mono ah.le) hD gz) ?_
   rintro iM iN ⟨gB,rfl,cM,gC⟩
   have aS:=(aI.c1 cM).t3
   refine i8 (qh ⟨aS.hasK cM.le,aS.hasObj m2,aS.hasObj m1⟩ (fun _=>trivial) (gt (u9 u) (gd' (l5 (j9 (i9 (c9 ?_)))))))
   cases oi gA
   exact ey results70 ⟨gB,u,aS.s,gC⟩
  refine j3 (x8 (qr (lv (N2 u) (O7 (fl W9 u a5u m1 U u (lv (q9 underlying33 u aj) (lv (r_m u) (nq ?_))))))))
  obtain⟨gD,gE,aT⟩:=ob bv
  refine l4 (fun E' w'=>∃aU aV,gD= .inl aU∧E'=[(0,pt g1),(13,V6 aU)]∧SH w K (List.flatMap F5.gs [s7 g1 [V3 a b c,V3 d f i,V3 k l m,V3 o q s] 113]) w' aV [s7 g1 [V3 a b c,V3 d f i,V3 k l m,V3 o q s] 113]∧M0 K aV∧i7 aU) ?_ ?_
  ·refine j7 ?_
   obtain⟨iO,gF,cN⟩:=ob gE
   refine qf (fun (bA:Nat) (aJ:Int)=>IW w K (List.flatMap F5.gs [s7 g1 [V3 a b c,V3 d f i,V3 k l m,V3 o q s] 113]) K [(0,pt g1),(4,pt J),(5,pt T),(13,V6 aJ),(154,V3 G H I),(155,V6 (q1.Kids.length:Int)),(156,V6 ((bA:Nat):Int))] [s7 g1 [V3 a b c,V3 d f i,V3 k l m,V3 o q s] 113,s7 J [V6 q1.Kind,sv q1.Field,V3 O R S,V6 q1.From,V6 q1.To,V3 G H I] 35,s7 T [V6 q2.Id,V3 x y A,V3 B C D] 44] (i7 aJ)) gF ⟨K,u,U.f1.f2,kr,I5⟩ ?_ ?_
   ·rintro bA aJ _ gG iP hi446 gH gI ⟨cO,rfl,aW,ae,cP⟩
    refine sr (lv (u7 u u) (ns (C9 u (b8 (by omega)) (j3 (l5 (o4 (j7 (sr ?_))))))))
    obtain⟨Y,gJ,gK⟩:=ob gH
    refine li underlying33 B1 (aj.mono ae) gJ fun gL gM iQ gN gO=>?_
    obtain⟨bB,bC,bD,bE,bF,bG,rfl,gP,gQ,gR,gS,gT,gU⟩:=S9 gN
    have gV:F1 _ gL gM [V6 Y.Kind,sv Y.Field,V3 bB bC bD,V6 Y.From,V6 Y.To,V3 bE bF bG]:=gO
    refine lv (F3 B1 u aW gV u) (al B1 aW fun gW iR gX=>?_)
    have gY:SH _ _ _ _ _ [s7 gW [V6 0,sv [],V3 none 0 0,V6 0,V6 0,V3 none 0 0] 35,_,_,_]:=gX
    refine lw [V6 Y.Kind,sv Y.Field,V3 bB bC bD,V6 Y.From,V6 Y.To,V3 bE bF bG] B1 gY fun iS bH=>(nr (mv u (lv (j6 (ds:=[V6 Y.Kind,sv Y.Field,V3 bB bC bD,V6 Y.From,V6 Y.To,V3 bE bF bG]) B1 u m0 bH u u) (lv (j6 (ds:=[V6 q2.Id,V3 x y A,V3 B C D]) E8 u m3 bH u u) ?_))))
    obtain⟨gZ,hb,hc⟩:=ob gK
    have cQ:=bH.f1
    refine lk b9V (ih cQ.e1 (W.mono ae) (X.mono ae) (aa.mono ae) (ab.mono ae) gP gQ gR gS gT gU ac (ak.mono ae) (am.mono ae) hD hb) ?_
    rintro iT iU ⟨bI,rfl,cR,iV⟩
    have bJ:=(cQ.c1 cR).t4
    refine av u (ns (o4 ?_))
    obtain⟨hd,he,hf⟩:=ob hc
    refine l4 (IV w K (List.flatMap F5.gs [s7 g1 [V3 a b c,V3 d f i,V3 k l m,V3 o q s] 113]) bI [(0,pt g1),(4,pt J),(5,pt T),(13,V6 aJ),(16,V6 gZ),(154,V3 G H I),(155,V6 (q1.Kids.length:Int)),(156,V6 ((bA:Nat):Int)),(170,.bool hd)] [s7 g1 [V3 a b c,V3 d f i,V3 k l m,V3 o q s] 113,s7 J [V6 q1.Kind,sv q1.Field,V3 O R S,V6 q1.From,V6 q1.To,V3 G H I] 35,s7 T [V6 q2.Id,V3 x y A,V3 B C D] 44]) ?_ ?_
    ·refine j5 (mv u (lv (A9 u u) (mv u (bt he (fun ai bK=>?_) (fun ai bK=>?_)))))
     ·refine lg ai (c7 a6x u) (lg ai (w8 E6 u m2 bJ u) (lg ai (A9 u u) (lv (n9 u ai u) (i8 ?_))))
      cases oi bK
      exact qd ⟨bI,u,bJ.s,kr⟩
     refine lu ai (lu ai (lu ai (lv (L8 u ai u) (i8 ?_))))
     cases oi bK
     exact qd ⟨bI,u,bJ.s,kr⟩
    rintro _ iW ⟨cS,rfl,cT,hg⟩
    refine l5 (D5 hf u (fun hh bL=>?_) (fun hh bL=>?_))
    ·refine sr (lv (N2 u) (nq (rr (i9 (c9 (c9 ?_))))))
     cases oi bL
     cases gI _ u
     refine i9 (c9 ?_)
     cases oi cN
     refine c9 ?_
     cases oi aT
     exact ey results70 ⟨cS,u,cT.s,I5⟩
    refine j3 (l5 (j5 (mv u (mv u (lv (y7 u u) (av u (nb (qg (lv (B6 u u (C6 hi446 (b7.max aj))) ?_)))))))))
    refine mv u (i8 ?_)
    cases oi bL
    exact qd ⟨_,u,cS,u,cT,((ae.trans cR.le).trans hg),(u0 _)⟩
   rintro aJ _ gG hi ⟨cO,rfl,aW,ae,cP⟩
   subst hi
   refine sr (lv (u7 u u) (ns (C8 u (c6 (by omega)) (y4 (g8 (g8 (l6 ?_)))))))
   cases oi cN
   exact qd ⟨_,cO,u,u,aW.s,ae,cP⟩
  rintro _ iX ⟨aU,aV,rfl,rfl,hj,iY,hk⟩
  have aT:=E9 aT
  refine qr (mv u (av u (nq (j9 ?_))))
  cases oi aT
  exact ey results70 ⟨aV,u,hj,hk⟩

theorem P4 {q0:u6}{q1:A5}{q2:q7}{q3:Int}{r:Int}(hS:SH w K [] w K [])(an:b7 D9 K A a b q0.Stops)(ao:b7 L0 K B c d q0.Syns)(U:b7 F6 K C f i q1.Docs)(V:b7 B8 K D k l q1.Entries)(ap:i7 q2.Kind)(aq:q2.Field.length≤maxLen)(ar:b7 D9 K G m n q2.Words)(au:i7 q2.From)(aw:i7 q2.To)(ax:b7 F4 K H o p q2.Kids)(aB:i7 q3)(hG31:a4i y6 1 q G8 w)(hD: ¬dr.D)(hm:N5 F q0 q1 q2 q3=some r):
  Calls prog 21 #[.agg #[V3 A a b,V3 B c d],.agg #[V3 C f i,V3 D k l],.agg #[V6 q2.Kind,sv q2.Field,V3 G m n,V6 q2.From,V6 q2.To,V3 H o p],V6 q3] w (R_i w K r):=by
 rw [N5] at hm
 refine ci func21 u ntmps21 (sr (bx u hS fun W bj aC=>?_))
 have aD:SH _ _ _ _ _ [s7 W [V3 A a b,V3 B c d] 26]:=aC
 refine bx u aD fun X bk aE=>?_
 have aF:SH _ _ _ _ _ [s7 X [V3 C f i,V3 D k l] 30,_]:=aE
 refine bx u aF fun Y bl aG=>?_
 have aH:SH _ _ _ _ _ [s7 Y [V6 q2.Kind,sv q2.Field,V3 G m n,V6 q2.From,V6 q2.To,V3 H o p] 35,_,_]:=aG
 refine lv (N2 u) (nr (mv u ?_))
 obtain⟨aa,aI,aJ⟩:=ob hm
 have ay:=aH.f1
 refine lk c4w (a7G F ay.e1 U V aB aI) ?_
 rintro bm bn ⟨ab,ac,ad,ae,af,ag,aK,rfl,s,aL,aM,aN⟩
 have aO:=(ay.c1 s).t3
 refine mv u (lv (y3 u u) (lv (y3 u u) (al E8 aO fun ah bo aP=>?_)))
 have aQ:SH _ _ _ _ _ [s7 ah [V6 0,V3 none 0 0,V3 none 0 0] 44,_,_,_]:=aP
 refine lw [V6 aa.1.Id,V3 ab ac ad,V3 ae af ag] E8 aQ fun bp R=>(av u (ns (o4 ?_)))
 obtain⟨aR,aS,aT⟩:=ob aJ
 refine l4 (IV w K [] aK [(4,pt W),(5,pt X),(6,pt Y),(9,pt ah),(29,.bool aR)] [s7 W [V3 A a b,V3 B c d] 26,s7 X [V3 C f i,V3 D k l] 30,s7 Y [V6 q2.Kind,sv q2.Field,V3 G m n,V6 q2.From,V6 q2.To,V3 H o p] 35,s7 ah [V6 aa.1.Id,V3 ab ac ad,V3 ae af ag] 44]) ?_ ?_
 ·refine j5 (lv (j6 (ds:=[V3 A a b,V3 B c d]) B9 u m3 R u u) (lv (j6 (ds:=[V3 C f i,V3 D k l]) C4 u m1 R u u) ?_))
  obtain⟨bq,aU,aV⟩:=ob aS
  refine lk a9k (J1 F R.enter0 (an.mono s.le) (ao.mono s.le) (U.mono s.le) (V.mono s.le) aU) ?_
  rintro br bs ⟨aW,rfl,J⟩
  have O:=(R.c0 J).t4
  refine lv (A4 u) (mv u (bt aV (fun x ai=>?_) (fun x ai=>?_)))
  ·refine lu x (lu x (lu x (lv (J6 u x u) (mv u (lu u (lu u (lv (J6 u u u) (i8 ?_))))))))
   cases oi ai
   exact qd ⟨aW,u,O.f2.f2.f3,J.le⟩
  refine lg x (j6 (ds:=[V6 q2.Kind,sv q2.Field,V3 G m n,V6 q2.From,V6 q2.To,V3 H o p]) B1 u m2 O u u) ?_
  obtain⟨bu,aX,aY⟩:=ob ai
  refine A3 (wg u u x) u (A2 (vs:=[.agg #[V6 q2.Kind,sv q2.Field,V3 G m n,V6 q2.From,V6 q2.To,V3 H o p]]) b9U u) (a0J F O.enter0 ap aq (ar.mono (s.le.trans J.le)) au aw (ax.mono (s.le.trans J.le)) (hG31.keep O) aX) ?_
  rintro bv bz ⟨az,rfl,aj⟩
  refine⟨_,u,?_⟩
  have aA:=(O.c0 aj).t4
  refine lg x (A4 u) (lv (l9 u x u) (mv u (bt aY (fun I ak=>?_) (fun I ak=>?_))))
  ·refine lu I (lu I (lv (J6 u I u) (i8 ?_)))
   cases oi ak
   exact qd ⟨az,u,aA.f2.f2.f3,(J.le.trans aj.le)⟩
  refine lg I (i5 u) (lg I (A4 u) (lv (l9 u I u) (i8 ?_)))
  cases oi ak
  exact qd ⟨az,u,aA.f2.f2.f3,(J.le.trans aj.le)⟩
 rintro _ bA ⟨aZ,rfl,S,y⟩
 refine l5 (D5 aT u (fun ba am=>?_) (fun ba am=>?_))
 ·refine sr (lv (N2 u) (nq (rr ?_)))
  cases oi am
  exact ey results21 ⟨aZ,u,S.s,I5⟩
 refine j3 (qr (lv (j6 (ds:=[V3 A a b,V3 B c d]) B9 u m0 S u u) (lv (j6 (ds:=[V3 C f i,V3 D k l]) C4 u m1 S u u) (lv (C3 (cs:=#[V3 A a b,V3 B c d,V3 C f i,V3 D k l]) c4i c4n u (by kernel_rfl)) (bx u S fun bb bB bc=>?_)))))
 have T:SH _ _ _ _ _ [s7 bb [V3 A a b,V3 B c d,V3 C f i,V3 D k l] 113,_,_,_,_]:=bc
 refine av u (nr (mv u (lv (j6 (ds:=[V6 q2.Kind,sv q2.Field,V3 G m n,V6 q2.From,V6 q2.To,V3 H o p]) B1 u m3 T u u) (lv (j6 (ds:=[V6 aa.1.Id,V3 ab ac ad,V3 ae af ag]) E8 u m4 T u u) ?_))))
 obtain⟨bC,bd,be⟩:=ob am
 refine lk b9V ((a5s F (q0:=(T0.mk q0 q1))) T.e1 (an.mono (s.le.trans y)) (ao.mono (s.le.trans y)) (U.mono (s.le.trans y)) (V.mono (s.le.trans y)) ap aq (ar.mono (s.le.trans y)) au aw (ax.mono (s.le.trans y)) aL (aM.mono y) (aN.mono y) hD bd) ?_
 rintro bD bE ⟨bf,rfl,bg,bh⟩
 have bi:=(T.c1 bg).t5
 refine av u (nq (j9 ?_))
 cases oi be
 exact ey results21 ⟨bf,u,bi.s,bh⟩

theorem a8v {q0:u6}{q1:A5}{q2:q7}{r:(List E3)}(hS:SH w K [] w K [])(aE:b7 D9 K A a b q0.Stops)(aF:b7 L0 K B c d q0.Syns)(T:b7 F6 K C f i q1.Docs)(aG:b7 B8 K D k l q1.Entries)(aH:i7 q2.Kind)(aI:q2.Field.length≤maxLen)(aJ:b7 D9 K G m n q2.Words)(aK:i7 q2.From)(aL:i7 q2.To)(aM:b7 F4 K H o p q2.Kids)(hG30:a4i y6 1 q G8 w)(hD: ¬dr.D)(hm:a05 F q0 q1 q2=some r):
  Calls prog 92 #[.agg #[V3 A a b,V3 B c d],.agg #[V3 C f i,V3 D k l],.agg #[V6 q2.Kind,sv q2.Field,V3 G m n,V6 q2.From,V6 q2.To,V3 H o p]] w fun e w'=>∃a_1 n_2 c_3 K',e= .returned (V3 a_1 n_2 c_3)∧SH w K [] w' K' [tail (V3 a_1 n_2 c_3) 71 2]∧b7 Q0 K' a_1 n_2 c_3 r:=by
 rw [a05] at hm
 refine ci func92 u ntmps92 (sr (bx u hS fun am ce aU=>?_))
 have aV:SH _ _ _ _ _ [s7 am [V3 A a b,V3 B c d] 26]:=aU
 refine bx u aV fun an cf aW=>?_
 have aX:SH _ _ _ _ _ [s7 an [V3 C f i,V3 D k l] 30,_]:=aW
 refine bx u aX fun V cg aY=>?_
 have aZ:SH _ _ _ _ _ [s7 V [V6 q2.Kind,sv q2.Field,V3 G m n,V6 q2.From,V6 q2.To,V3 H o p] 35,_,_]:=aY
 refine lv (r_n u) (nr (b0 Q0 underlying57 Q2 aZ fun ae ch ba s aN af=>(av u (ns (o4 ?_)))))
 obtain⟨bb,bc,bd⟩:=ob hm
 refine l4 (IV w K [] ba [(3,pt am),(4,pt an),(5,pt V),(7,V3 ae 0 0),(21,.bool bb)] [s7 am [V3 A a b,V3 B c d] 26,s7 an [V3 C f i,V3 D k l] 30,s7 V [V6 q2.Kind,sv q2.Field,V3 G m n,V6 q2.From,V6 q2.To,V3 H o p] 35,tail (V3 ae 0 0) 71 2]) ?_ ?_
 ·refine j5 (lv (j6 (ds:=[V3 A a b,V3 B c d]) B9 u m3 af u u) (lv (j6 (ds:=[V3 C f i,V3 D k l]) C4 u m2 af u u) ?_))
  obtain⟨cj,be,bf⟩:=ob bc
  refine lk a9k (J1 F af.enter0 (aE.mono s) (aF.mono s) (T.mono s) (aG.mono s) be) ?_
  rintro ck cl ⟨bg,rfl,W⟩
  have X:=(af.c0 W).t4
  refine lv (A4 u) (mv u (bt bf (fun I ao=>?_) (fun I ao=>?_)))
  ·refine lu I (lu I (lu I (lv (J6 u I u) (i8 ?_))))
   cases oi ao
   exact qd ⟨bg,u,X.f1.f2.f3,W.le⟩
  refine lg I (j6 (ds:=[V6 q2.Kind,sv q2.Field,V3 G m n,V6 q2.From,V6 q2.To,V3 H o p]) B1 u m1 X u u) ?_
  obtain⟨cm,bh,bi⟩:=ob ao
  refine A3 (wg u u I) u (A2 (vs:=[.agg #[V6 q2.Kind,sv q2.Field,V3 G m n,V6 q2.From,V6 q2.To,V3 H o p]]) b9U u) (a0J F X.enter0 aH aI (aJ.mono (s.trans W.le)) aK aL (aM.mono (s.trans W.le)) (hG30.keep X) bh) ?_
  rintro cn cp ⟨bj,rfl,aO⟩
  refine⟨_,u,?_⟩
  have bk:=(X.c0 aO).t4
  refine lg I (A4 u) (lv (l9 u I u) (i8 ?_))
  cases oi bi
  exact qd ⟨bj,u,bk.f1.f2.f3,(W.le.trans aO.le)⟩
 rintro _ cq ⟨ag,rfl,ah,x⟩
 refine l5 (D5 bd u (fun bl ap=>?_) (fun bl ap=>?_))
 ·refine sr (mv u (av u (nq (rr ?_))))
  cases oi ap
  exact ey results92 ⟨ae,0,0,ag,u,ah.s,(aN.mono x)⟩
 refine j3 (qr (lv (j6 (ds:=[V3 A a b,V3 B c d]) B9 u m0 ah u u) (lv (j6 (ds:=[V3 C f i,V3 D k l]) C4 u m1 ah u u) (lv (C3 (cs:=#[V3 A a b,V3 B c d,V3 C f i,V3 D k l]) c4i c4n u (by kernel_rfl)) (bx u ah fun aq cr bm=>?_)))))
 have aP:SH _ _ _ _ _ [s7 aq [V3 A a b,V3 B c d,V3 C f i,V3 D k l] 113,_,_,_,_]:=bm
 refine av u (O7 (fl L3 u a1b m2 aP u (lv (q9 underlying27 u (T.mono (s.trans x))) (lv (r_m u) (nq ?_)))))
 obtain⟨bn,bo,bp⟩:=ob ap
 refine l4 (fun E' w'=>∃Y aa ab ac,E'=[(7,V3 Y aa ab)]∧SH w K [] w' ac [tail (V3 Y aa ab) 71 2]∧M0 ag ac∧b7 Q0 ac Y aa ab bn) ?_ ?_
 ·refine j7 ?_
  obtain⟨ct,bq,br⟩:=ob bo
  have bs:=aP.f4.f1.f4.sb (sk (sk (sk (sd (sd sz)))))
  refine qF (fun (aQ:Nat) (ar:(List E3)) E' w'=>∃J O R U,E'=[(5,pt V),(7,V3 J O R),(8,pt aq),(28,V3 C f i),(29,V6 (q1.Docs.length:Int)),(30,V6 ((aQ:Nat):Int))]∧SH w K [] w' U [s7 V [V6 q2.Kind,sv q2.Field,V3 G m n,V6 q2.From,V6 q2.To,V3 H o p] 35,s7 aq [V3 A a b,V3 B c d,V3 C f i,V3 D k l] 113,tail (V3 J O R) 71 2]∧M0 ag U∧b7 Q0 U J O R ar) bq ⟨ae,0,0,ag,u,bs,kr,(aN.mono x)⟩ ?_ ?_
  ·rintro aQ ar _ bu cu hi117 bv ⟨J,O,R,U,rfl,ai,y,aj⟩
   refine sr (lv (u7 u u) (ns (C9 u (b8 (by omega)) (j3 (l5 (o4 (j7 (sr ?_))))))))
   obtain⟨S,bz,bA⟩:=ob bv
   refine li underlying27 E8 (T.mono ((s.trans x).trans y)) bz fun bB bC cv bD bE=>?_
   obtain⟨au,aw,ax,ay,az,aA,rfl,aR,bF,bG⟩:=bD
   have bH:F1 _ bB bC [V6 S.Id,V3 au aw ax,V3 ay az aA]:=bE
   refine lv (F3 E8 u ai bH u) (al E8 ai fun bI cw bJ=>?_)
   have bK:SH _ _ _ _ _ [s7 bI [V6 0,V3 none 0 0,V3 none 0 0] 44,_,_,_]:=bJ
   refine lw [V6 S.Id,V3 au aw ax,V3 ay az aA] E8 bK fun cx aB=>(nr (mv u (lv (j6 (ds:=[V6 q2.Kind,sv q2.Field,V3 G m n,V6 q2.From,V6 q2.To,V3 H o p]) B1 u m1 aB u u) (lv (j6 (ds:=[V6 S.Id,V3 au aw ax,V3 ay az aA]) E8 u m0 aB u u) ?_))))
   obtain⟨ak,bL,bM⟩:=ob bA
   have aS:=aB.f2
   refine lk b9V ((a5s F (q0:=(T0.mk q0 q1))) aS.e1 (aE.mono ((s.trans x).trans y)) (aF.mono ((s.trans x).trans y)) (T.mono ((s.trans x).trans y)) (aG.mono ((s.trans x).trans y)) aH aI (aJ.mono ((s.trans x).trans y)) aK aL (aM.mono ((s.trans x).trans y)) aR bF bG hD bL) ?_
   rintro cy cz ⟨bN,rfl,ad,bO⟩
   have aC:=(aS.c1 ad).t4
   refine av u (nr (mv u (lv (E7 u u) (nq (D5 bM u (fun bP aD=>?_) (fun bP aD=>?_))))))
   ·refine j5 (mv u (fl P6 u E6 m1 aC u (mv u (lv (C3 (cs:=#[V6 S.Id,V6 ak]) c3D Q2 u (by kernel_rfl)) (lb Q0 (.agg #[V6 S.Id,V6 ak]) [V6 S.Id,V6 ak] (E3.mk S.Id ak) underlying57 Q2 ⟨u,aR,bO⟩ aC fun cA cB cC aT bQ bR=>?_)))))
    obtain⟨cD,bS,bT⟩:=ob aD
    refine lp underlying57 Q2 (aj.mono (ad.le.trans aT)) bQ bS bR.f4 fun bU bV bW cE bX bY bZ ca=>(av u (nb (qg (lv (B6 u u (C6 hi117 (b7.max (T.mono (s.trans x))))) (mv u (i8 ?_))))))
    cases oi bT
    exact qd ⟨bU,bV,bW,bX,u,ca.f2.f4.s,(((y.trans ad.le).trans aT).trans bY),bZ⟩
   refine j3 (x8 (qg (lv (B6 u u (C6 hi117 (b7.max (T.mono (s.trans x))))) (mv u (i8 ?_)))))
   cases oi aD
   exact qd ⟨J,O,R,bN,u,aC.f3.f1.f3.s,(y.trans ad.le),(aj.mono ad.le)⟩
  rintro ar _ bu cb ⟨J,O,R,U,rfl,ai,y,aj⟩
  subst cb
  refine sr (lv (u7 u u) (ns (C8 u (c6 (by omega)) (y4 (g8 (g8 (l6 ?_)))))))
  cases oi br
  exact qd ⟨J,O,R,U,u,ai.s,y,aj⟩
 rintro _ cF ⟨Y,aa,ab,ac,rfl,cc,cG,cd⟩
 refine qr (mv u (av u (nq (j9 ?_))))
 cases oi bp
 exact ey results92 ⟨Y,aa,ab,ac,u,cc,cd⟩

theorem U2 {q0:u6}{q1:A5}{q2:q7}{r:(List Int)}(hS:SH w K [] w K [])(ah:b7 D9 K A a b q0.Stops)(ai:b7 L0 K B c d q0.Syns)(aj:b7 F6 K C f i q1.Docs)(ak:b7 B8 K D k l q1.Entries)(am:i7 q2.Kind)(an:q2.Field.length≤maxLen)(ao:b7 D9 K G m n q2.Words)(ap:i7 q2.From)(aq:i7 q2.To)(ar:b7 F4 K H o p q2.Kids)(hG30:a4i y6 1 q G8 w)(hD: ¬dr.D)(hm:I4 F q0 q1 q2=some r):
  Calls prog 31 #[.agg #[V3 A a b,V3 B c d],.agg #[V3 C f i,V3 D k l],.agg #[V6 q2.Kind,sv q2.Field,V3 G m n,V6 q2.From,V6 q2.To,V3 H o p]] w fun e w'=>∃a_1 n_2 c_3 K',e= .returned (V3 a_1 n_2 c_3)∧SH w K [] w' K' [tail (V3 a_1 n_2 c_3) 3 1]∧b7 D6 K' a_1 n_2 c_3 r:=by
 rw [I4] at hm
 refine ci func31 u ntmps31 (sr (bx u hS fun au bv aw=>?_))
 have ax:SH _ _ _ _ _ [s7 au [V3 A a b,V3 B c d] 26]:=aw
 refine bx u ax fun ay bz az=>?_
 have aA:SH _ _ _ _ _ [s7 ay [V3 C f i,V3 D k l] 30,_]:=az
 refine bx u aA fun aB bA aC=>?_
 have aD:SH _ _ _ _ _ [s7 aB [V6 q2.Kind,sv q2.Field,V3 G m n,V6 q2.From,V6 q2.To,V3 H o p] 35,_,_]:=aC
 refine lv (r_n u) (nr (b0 D6 underlying46 E6 aD fun aE bB bC x aF y=>(av u (O7 (lv (j6 (ds:=[V3 A a b,V3 B c d]) B9 u m3 y u u) (lv (j6 (ds:=[V3 C f i,V3 D k l]) C4 u m2 y u u) (lv (j6 (ds:=[V6 q2.Kind,sv q2.Field,V3 G m n,V6 q2.From,V6 q2.To,V3 H o p]) B1 u m1 y u u) ?_)))))))
 obtain⟨aG,aH,aI⟩:=ob hm
 refine lk c6D (a8v F y.enter0 (ah.mono x) (ai.mono x) (aj.mono x) (ak.mono x) am an (ao.mono x) ap aq (ar.mono x) (hG30.keep y) hD aH) ?_
 rintro bD bE ⟨aJ,aK,aL,Y,rfl,ad,aa⟩
 have aM:=(y.c0 ad).t5
 refine lv (q9 underlying57 u aa) (lv (r_m u) (nq ?_))
 obtain⟨aN,aO,aP⟩:=ob aI
 refine l4 (fun E' w'=>∃S T U V,E'=[(7,V3 S T U)]∧SH w K [] w' V [tail (V3 S T U) 3 1]∧M0 Y V∧b7 D6 V S T U aN) ?_ ?_
 ·refine j7 ?_
  obtain⟨bF,aQ,aR⟩:=ob aO
  have aS:=aM.sb (sd (sk (sd (sd (sd sz)))))
  refine qF (fun (ae:Nat) (ab:(List Int)) E' w'=>∃I J O R,E'=[(7,V3 I J O),(14,V3 aJ aK aL),(15,V6 (aG.length:Int)),(16,V6 ((ae:Nat):Int))]∧SH w K [] w' R [tail (V3 I J O) 3 1]∧M0 Y R∧b7 D6 R I J O ab) aQ ⟨aE,0,0,Y,u,aS,kr,(aF.mono ad.le)⟩ ?_ ?_
  ·rintro ae ab _ aT bG hi88 aU ⟨I,J,O,R,rfl,W,X,ac⟩
   refine sr (lv (u7 u u) (ns (C9 u (b8 (by omega)) (j3 (l5 (o4 (j7 (sr ?_))))))))
   obtain⟨s,aV,aW⟩:=ob aU
   refine li underlying57 Q2 (aa.mono X) aV fun aX aY bH aZ ba=>?_
   obtain⟨rfl,bb,bI⟩:=aZ
   have bc:F1 _ aX aY [V6 s.Doc,V6 s.Points]:=ba
   refine lv (F3 Q2 u W bc u) (al Q2 W fun bd bJ be=>?_)
   have bf:SH _ _ _ _ _ [s7 bd [V6 0,V6 0] 71,_]:=be
   refine lw [V6 s.Doc,V6 s.Points] Q2 bf fun bK af=>(nq (j5 (mv u (fl a4N u E6 m0 af u (lb D6 (V6 s.Doc) [V6 s.Doc] s.Doc underlying46 E6 ⟨u,bb⟩ af fun bL bM bN ag bg bh=>?_)))))
   obtain⟨bO,bi,bj⟩:=ob aW
   refine lp underlying46 E6 (ac.mono ag) bg bi bh.f2 fun bk bl bm bP bn bo bp bq=>(av u (nb (qg (lv (B6 u u (C6 hi88 (b7.max aa))) (mv u (i8 ?_))))))
   cases oi bj
   exact qd ⟨bk,bl,bm,bn,u,bq.s,((X.trans ag).trans bo),bp⟩
  rintro ab _ aT br ⟨I,J,O,R,rfl,W,X,ac⟩
  subst br
  refine sr (lv (u7 u u) (ns (C8 u (c6 (by omega)) (y4 (g8 (g8 (l6 ?_)))))))
  cases oi aR
  exact qd ⟨I,J,O,R,u,W,X,ac⟩
 rintro _ bQ ⟨S,T,U,V,rfl,bs,bR,bu⟩
 refine qr (mv u (av u (nq (j9 ?_))))
 cases oi aP
 exact ey results31 ⟨S,T,U,V,u,bs,bu⟩
end Go.Proofs.YtnloenhmkdpgeaaGreatDoor
