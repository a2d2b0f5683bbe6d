/-
 Walks of the functions. Printed by gen.py.
-/
import Derived.Test.YtpdfkjjmcnhakaaGreatDoorWalkA0
import Derived.Test.YtpdfkjjmcnhakaaGreatDoorWalkA2
import Derived.Test.YtpdfkjjmcnhakaaGreatDoorWalkA3
set_option linter.unusedVariables false
set_option linter.unusedSectionVars false
set_option maxRecDepth 100000
namespace Go.Proofs.YtpdfkjjmcnhakaaGreatDoor
set_option maxHeartbeats 4000000
open Go Go.Fk Go.RowKit Tryz
variable (F:Nat){w:World}{K:C7}{Z:List Nat}{g1 g2 g3:Nat}{A B C D G H I J O R S T:Option Addr}{a b c d f i k l m n o p q s v x y aa ab ac ad ae af ag:Nat}
variable [dr:Dr]

theorem V8 {q0:o0}{q1:l3}{r:(List w8)}(hS:SH w K [] w K [])(aj:b7 B3 K A a b q0.Stops)(aS:b7 G5 K B c d q0.Syns)(aT:q1.length≤maxLen)(hm:G0 F q0 q1=some r):
  Calls prog 49 #[.agg #[V3 A a b,V3 B c d],sv q1] w fun e w'=>∃a_1 n_2 c_3 K',e= .returned (V3 a_1 n_2 c_3)∧SH w K [] w' K' [tail (V3 a_1 n_2 c_3) 104 2]∧b7 G2 K' a_1 n_2 c_3 r:=by
 rw [G0] at hm
 refine ci func49 u ntmps49 (sr (bx u hS fun i dR bk=>?_))
 have bl:SH _ _ _ _ _ [r5 i [V3 A a b,V3 B c d] 38]:=bk
 refine lv (r_n u) (nr (b0 G2 underlying101 E3 bl fun k dS bm J aU az=>(av u (ns (n9 ?_)))))
 obtain⟨bn,bo,bp⟩:=ob hm
 refine j9 (IV w K [] bm [(1,sv q1),(2,pt i),(5,V3 k 0 0),(20,.bool bn)] [r5 i [V3 A a b,V3 B c d] 38,tail (V3 k 0 0) 104 2]) ?_ ?_
 ·refine j3 (lv (s7 (ds:=[V3 A a b,V3 B c d]) E1 u m1 az u u) ?_)
  obtain⟨dT,bq,br⟩:=ob bo
  refine lk b6Z (a08 F az.enter0 (aj.mono J) (aS.mono J) bq) ?_
  rintro dU dV ⟨bs,rfl,aA⟩
  have aB:=(az.c0 aA).t2
  refine lv (y3 u) (mv u (bt br (fun l aC=>?_) (fun l aC=>?_)))
  ·refine lu l (lu l (lu l (lv (L1 u l u) (i5 ?_))))
   cases oi aC
   exact qd ⟨bs,u,aB.f1,aA.le⟩
  refine lg l (i4 u) ?_
  obtain⟨dW,bu,bv⟩:=ob aC
  refine A7 (wg u u l) u (A6 (vs:=[sv q1]) b62 u) (a1b F aB.enter0 aT bu) ?_
  rintro dX dY ⟨bz,rfl,aV⟩
  refine⟨_,u,?_⟩
  have bA:=(aB.c0 aV).t2
  refine lg l (y3 u) (lv (m9 u l u) (i5 ?_))
  cases oi bv
  exact qd ⟨bz,u,bA.f1,(aA.le.trans aV.le)⟩
 rintro _ dZ ⟨bB,rfl,aW,O⟩
 refine l4 (D0 bp u (fun bC aD=>?_) (fun bC aD=>?_))
 ·refine sr (mv u (av u (nq (rr ?_))))
  cases oi aD
  exact ey results49 ⟨k,0,0,bB,u,aW.s,(aU.mono O)⟩
 refine i8 (qr (b0 G2 underlying101 E3 aW fun bD ea eb Y bE aX=>(av u (Q9 (mv u ?_)))))
 obtain⟨aY,bF,bG⟩:=ob aD
 refine lk b8r (a1Z F aX.enter0 aT bF) ?_
 rintro ec ed ⟨aZ,ba,bb,aE,rfl,y,ak⟩
 have bH:=(aX.c0 y).t4
 refine lv (p7 underlying110 u ak) (lv (r_m u) (nq ?_))
 obtain⟨bI,bJ,bK⟩:=ob bG
 refine j9 (fun E' w'=>∃R S T C,E'=[(2,pt i),(5,V3 k 0 0),(6,V3 R S T)]∧SH w K [] w' C [r5 i [V3 A a b,V3 B c d] 38,tail (V3 k 0 0) 104 2,tail (V3 R S T) 104 2]∧H7 aE C∧b7 G2 C R S T bI) ?_ ?_
 ·refine i7 ?_
  obtain⟨ee,bL,bM⟩:=ob bJ
  have bN:=bH.f1.f3.f3.sb (sk (sk (sk (sd sz))))
  refine qF (fun (aF:Nat) (aG:(List w8)) E' w'=>∃m o q U,E'=[(2,pt i),(5,V3 k 0 0),(6,V3 m o q),(24,V3 aZ ba bb),(25,V6 (aY.length:Int)),(26,V6 ((aF:Nat):Int))]∧SH w K [] w' U [r5 i [V3 A a b,V3 B c d] 38,tail (V3 k 0 0) 104 2,tail (V3 m o q) 104 2]∧H7 aE U∧b7 G2 U m o q aG) bL ⟨bD,0,0,aE,u,bN,kr,(bE.mono y.le)⟩ ?_ ?_
  ·rintro aF aG _ bO ef hi97 bP ⟨m,o,q,U,rfl,am,D,an⟩
   refine sr (lv (o4 u u) (ns (y5 u (b8 (by omega)) (i8 (l4 (n9 (i7 (sr ?_))))))))
   obtain⟨f,bQ,bR⟩:=ob bP
   refine li underlying110 a0p (ak.mono D) bQ fun bS bT eg bU bV=>?_
   obtain⟨rfl,bc,bW,eh,ei⟩:=bU
   have bX:D7 _ bS bT [sv f.Text,V6 f.At,V6 f.From,V6 f.To]:=bV
   refine lv (C9 a0p u am bX u) (al a0p am fun aH ej bY=>?_)
   have bZ:SH _ _ _ _ _ [r5 aH [sv [],V6 0,V6 0,V6 0] 114,_,_,_]:=bY
   refine lw [sv f.Text,V6 f.At,V6 f.From,V6 f.To] a0p bZ fun ek aI=>(nr (fl a5S u D8 m0 aI u ?_))
   obtain⟨V,ca,cb⟩:=ob bR
   refine lk b8v (a09 F aI.enter0 bc ca) ?_
   rintro el em ⟨cc,rfl,G,bd⟩
   have ao:=(aI.c0 G).t4
   refine av u (ns ?_)
   obtain⟨cd,ce,cf⟩:=ob cb
   refine j9 (IV w K [] cc [(2,pt i),(5,V3 k 0 0),(6,V3 m o q),(8,pt aH),(9,sv V),(24,V3 aZ ba bb),(25,V6 (aY.length:Int)),(26,V6 ((aF:Nat):Int)),(45,.bool cd)] [r5 i [V3 A a b,V3 B c d] 38,r5 aH [sv f.Text,V6 f.At,V6 f.From,V6 f.To] 114,tail (V3 k 0 0) 104 2,tail (V3 m o q) 104 2]) ?_ ?_
   ·refine j3 (fl a0M u W1 m1 ao u (fl a5S u D8 m0 ao u ?_))
    obtain⟨en,cg,ch⟩:=ob ce
    refine lk b5L (G7 F ao.enter0 (b7.mono (((((J.trans O).trans Y).trans y.le).trans D).trans G.le) aj) bc cg) ?_
    rintro eo ep ⟨cj,rfl,ap⟩
    have aq:=(ao.c0 ap).t4
    refine lv (y3 u) (mv u (bt ch (fun s aJ=>?_) (fun s aJ=>?_)))
    ·refine lg s (c7 a0M u) (lg s (x8 W1 u m1 aq u) (lg s (i4 u) ?_))
     obtain⟨eq,ck,cl⟩:=ob aJ
     refine A7 (wg u u s) u (A6 (vs:=[V3 A a b,sv V]) b5L u) (G7 F aq.enter0 (b7.mono ((((((J.trans O).trans Y).trans y.le).trans D).trans G.le).trans ap.le) aj) bd ck) ?_
     rintro es et ⟨cm,rfl,be⟩
     refine⟨_,u,?_⟩
     have cn:=(aq.c0 be).t4
     refine lg s (y3 u) (lv (q8 u s u) (i5 ?_))
     cases oi cl
     exact qd ⟨cm,u,cn.f3.f3.f2.f3,(ap.le.trans be.le)⟩
    iterate 5 refine lu s ?_
    refine lv (X8 u s u) (i5 ?_)
    cases oi aJ
    exact qd ⟨cj,u,aq.f3.f3.f2.f3,ap.le⟩
   rintro _ eu ⟨cp,rfl,aK,ar⟩
   refine l4 (D0 cf u (fun cq aL=>?_) (fun cq aL=>?_))
   ·refine j3 (mv u (mv u (fl b3r u G4 m1 aK u (lv (C4 (cs:=#[sv V,V6 f.At]) b31 E3 u (by kernel_rfl)) (lb G2 (.agg #[sv V,V6 f.At]) [sv V,V6 f.At] (w8.mk V f.At) underlying101 E3 ⟨u,bd,bW⟩ aK fun ev ew ex bf cr ct=>?_)))))
    obtain⟨eA,cu,cv⟩:=ob aL
    refine lp underlying101 E3 (an.mono ((G.le.trans ar).trans bf)) cr cu ct.f4 fun cw cx cy eB cz cA cB cC=>(av u (nb (qg (lv (u3 u u (x9 hi97 (b7.max ak))) (mv u (i5 ?_))))))
    cases oi cv
    exact qd ⟨cw,cx,cy,cz,u,cC.f4.f3.s,((((D.trans G.le).trans ar).trans bf).trans cA),cB⟩
   refine i8 (q7 (qg (lv (u3 u u (x9 hi97 (b7.max ak))) (mv u (i5 ?_)))))
   cases oi aL
   exact qd ⟨m,o,q,cp,u,aK.s,((D.trans G.le).trans ar),(an.mono (G.le.trans ar))⟩
  rintro aG _ bO cD ⟨m,o,q,U,rfl,am,D,an⟩
  subst cD
  refine sr (lv (o4 u u) (ns (y4 u (c6 (by omega)) (p9 (c9 (c9 (j7 ?_)))))))
  cases oi bM
  exact qd ⟨m,o,q,U,u,am,D,an⟩
 rintro _ eC ⟨R,S,T,C,rfl,cE,aM,au⟩
 refine qs (sr (lv (R1 u) (nq ?_)))
 obtain⟨cF,cG,cH⟩:=ob bK
 refine j9 (fun E' w'=>∃aa ab ac ad,E'=[(5,V3 aa ab ac)]∧SH w K [] w' ad [tail (V3 aa ab ac) 104 2]∧H7 C ad∧b7 G2 ad aa ab ac cF) ?_ ?_
 ·refine i7 ?_
  obtain⟨eD,cI,cJ⟩:=ob cG
  refine qw (fun (aw:(List w8)×Int) E' w'=>∃ae af ag ah,E'=[(2,pt i),(5,V3 ae af ag),(6,V3 R S T),(10,V6 aw.2)]∧SH w K [] w' ah [r5 i [V3 A a b,V3 B c d] 38,tail (V3 ae af ag) 104 2,tail (V3 R S T) 104 2]∧H7 C ah∧b7 G2 ah ae af ag aw.1∧j5 aw.2) cI ⟨k,0,0,C,u,cE,kr,(b7.mono (((O.trans Y).trans y.le).trans aM) aU),R3⟩ ?_
  rintro aw _ eE eF cK cL ⟨ae,af,ag,ah,rfl,ax,x,aN,cM⟩
  refine n9 (sr (mv u (mv u (lv (p7 underlying101 u (au.mono x)) (lv (o4 u u) (nq (D0 cK u (fun cN aO=>?_) (fun cN aO=>?_))))))))
  ·refine i8 (l4 (i7 (sr (lv (s7 (ds:=[V3 A a b,V3 B c d]) E1 u m0 ax u u) (mv u (mv u ?_))))))
   obtain⟨eG,cO,cP⟩:=ob aO
   refine lk c0E (a8B F ax.enter0 (b7.mono (((((J.trans O).trans Y).trans y.le).trans aM).trans x) aj) (b7.mono (((((J.trans O).trans Y).trans y.le).trans aM).trans x) aS) (au.mono x) cM cO) ?_
   rintro eH eI ⟨v221,cQ,rfl,H,hp222⟩
   have aP:=(ax.c0 H).t3
   refine av u (Q9 (mv u (lv (b7C underlying156 u u hp222) (nq (D0 cP u (fun cR aQ=>?_) (fun cR aQ=>?_))))))
   ·refine sr (mv u (mv u (mv u ?_)))
    obtain⟨I,cS,cT⟩:=ob aQ
    refine li underlying101 E3 (au.mono (x.trans H.le)) cS fun cU cV eJ cW cX=>?_
    obtain⟨rfl,cY,cZ⟩:=cW
    have da:D7 _ cU cV [sv I.Text,V6 I.At]:=cX
    refine lv (C9 E3 u aP da u) (lb G2 (.agg #[sv I.Text,V6 I.At]) [sv I.Text,V6 I.At] I underlying101 E3 ⟨u,cY,cZ⟩ aP fun eK eL eM bg db dc=>?_)
    obtain⟨eN,dd,de⟩:=ob cT
    refine lp underlying101 E3 (aN.mono (H.le.trans bg)) db dd dc.f2 fun df dg dh eO di dj dk dl=>(av u (nr (mv u (lv (u6 u u) (av u (nq (p9 (c9 (j7 ?_)))))))))
    cases oi de
    exact qd ⟨_,u,df,dg,dh,di,u,dl.f3.f1.f3.s,(((x.trans H.le).trans bg).trans dj),dk,(s6 _)⟩
   refine i8 (qs ?_)
   have bh:=aP.drew
   refine wh1 (fun w'=>F0 cQ w') (fun w'=>True) 14 [] mixed (bh.hasK kr) (fun _=>trivial) (gt (i4 u) (gt (i4 u) ?_))
   obtain⟨ai,dm,dn⟩:=ob aQ
   obtain⟨dp,dq,eP,rfl,dr,dt⟩:=a4X.get hp222 dm
   obtain⟨du,dv,dw,rfl,dx,dy⟩:=dr
   have bi:D7 _ dp dq [V3 du dv dw,sv ai.To]:=dt
   refine gt (u7 u) (gt (c7 a2G u) (gh (fun _ h=>a1h D8 u (bi 1 _ u) h) (gt (i4 u) (gt (i4 u) ?_))))
   obtain⟨W,dz,dA⟩:=ob dn
   refine gi underlying101 E3 (au.mono (x.trans H.le)) dz fun dB dC eQ dD dE=>?_
   obtain⟨rfl,eR,dF⟩:=dD
   have dG:D7 _ dB dC [sv W.Text,V6 W.At]:=dE
   refine gt (c7 a0i u) (gh (fun _ h=>a1h G4 u (dG 1 _ u) h) (gt (C4 (cs:=#[sv ai.To,V6 W.At]) b31 E3 u (by kernel_rfl)) (gn (lb G2 (.agg #[sv ai.To,V6 W.At]) [sv ai.To,V6 W.At] (w8.mk ai.To W.At) underlying101 E3 ⟨u,dy,dF⟩ bh fun eS eT eU X dH bj=>(i5 (qh (bj.hasK X) (fun _=>trivial) (gn ?_)))))))
   obtain⟨eV,dI,dJ⟩:=ob dA
   refine lp underlying101 E3 (aN.mono (H.le.trans X)) dH dI bj.f2 fun dK dL dM eW dN ay dO aR=>(i5 (qh (aR.hasK (X.trans ay)) (fun _=>trivial) (gt (r4 u) (gd' (l4 (j3 (mv u (mv u (lv (u7 u) (fa Q5 u ?_))))))))))
   refine lv (z2 W1 u aR ((D7.mono (X.trans ay) bi) 0 _ u)) (lv (p7 underlying22 u (dx.mono (X.trans ay))) (lv (u6 u u) (av u (nb ?_))))
   cases oi dJ
   exact qd ⟨_,u,dK,dL,dM,dN,u,aR.f3.f1.f3.s,(((x.trans H.le).trans X).trans ay),dO,(s6 _)⟩
  refine p9 (c9 (c9 ?_))
  cases oi aO
  cases cL _ u
  refine j7 ?_
  cases oi cJ
  exact qd ⟨ae,af,ag,ah,u,ax.s,x,aN⟩
 rintro _ eX ⟨aa,ab,ac,ad,rfl,dP,eY,dQ⟩
 refine qr (mv u (av u (nq (l7 ?_))))
 cases oi cH
 exact ey results49 ⟨aa,ab,ac,ad,u,dP,dQ⟩

theorem a9q {q0:o0}{q1:List u1}{r:A2}(hS:SH w K [] w K [])(bH:b7 B3 K A a b q0.Stops)(bI:b7 G5 K B c d q0.Syns)(ay:b7 E5 K C f i q1)(hm:a0Y F q0 q1=some r):
  Calls prog 46 #[.agg #[V3 A a b,V3 B c d],V3 C f i] w fun e w'=>∃a_1 n_2 c_3 a_5 n_6 c_7 K',e= .returned (.agg #[V3 a_1 n_2 c_3,V3 a_5 n_6 c_7])∧SH w K [] w' K' [tail (V3 a_5 n_6 c_7) 97 3]∧b7 E5 K' a_1 n_2 c_3 r.Docs∧b7 B4 K' a_5 n_6 c_7 r.Entries:=by
 rw [a0Y] at hm
 refine ci func46 rfl ntmps46 (sr (bx rfl hS fun l eA bV=>?_))
 have bW:SH _ _ _ _ _ [r5 l [V3 A a b,V3 B c d] 38]:=bV
 refine al I9 bW fun k eB bX=>?_
 have bi:SH _ _ _ _ _ [r5 k [V3 none 0 0,V3 none 0 0] 43,_]:=bX
 refine ns (n9 ?_)
 obtain⟨bY,bZ,ca⟩:=ob hm
 refine j9 (IV w K [] K [(1,V3 C f i),(2,pt l),(4,pt k),(19,.bool bY)] [r5 l [V3 A a b,V3 B c d] 38,r5 k [V3 none 0 0,V3 none 0 0] 43]) ?_ ?_
 ·refine j3 (lv (s7 (ds:=[V3 A a b,V3 B c d]) E1 rfl m1 bi rfl rfl) ?_)
  obtain⟨eC,cb,cc⟩:=ob bZ
  refine lk b6Z (a08 F bi.enter0 bH bI cb) ?_
  rintro eD eE ⟨cd,rfl,aK⟩
  have bj:=(bi.c0 aK).t2
  refine lv (y3 rfl) (mv rfl (bt cc (fun o bk=>?_) (fun o bk=>?_)))
  ·refine lu o (lu o (lu o (lv (L1 rfl o rfl) (i5 ?_))))
   cases oi bk
   exact qd ⟨cd,rfl,bj.f1,aK.le⟩
  refine lg o (i4 rfl) ?_
  obtain⟨eF,ce,cf⟩:=ob bk
  refine A7 (wg rfl rfl o) rfl (A6 (vs:=[V3 C f i]) b9P rfl) (a4k F bj.enter0 (ay.mono aK.le) ce) ?_
  rintro eG eH ⟨cg,rfl,bJ⟩
  refine⟨_,rfl,?_⟩
  have ch:=(bj.c0 bJ).t2
  refine lg o (y3 rfl) (lv (m9 rfl o rfl) (i5 ?_))
  cases oi cf
  exact qd ⟨cg,rfl,ch.f1,(aK.le.trans bJ.le)⟩
 rintro _ eI ⟨cj,rfl,bl,S⟩
 refine l4 (D0 ca rfl (fun ck bm=>?_) (fun ck bm=>?_))
 ·refine sr (lv (C4 (cs:=#[V3 none 0 0,V3 none 0 0]) b81 I9 rfl (by kernel_rfl)) (lw [V3 none 0 0,V3 none 0 0] I9 bl.f1 fun eJ bK=>(nq (rr ?_))))
  cases oi bm
  have cl:=bK.nil 97 3
  exact ez results46 I9 bK m0 ⟨none,0,0,none,0,0,cj,rfl,cl.s,(b7.nil _ _),(b7.nil _ _)⟩
 refine i8 (qr (mv rfl ?_))
 obtain⟨eK,cm,cn⟩:=ob bm
 refine lk c0y (a56 F bl.enter0 (ay.mono S) cm) ?_
 rintro eL eM ⟨bn,bo,bp,eN,rfl,U,cp⟩
 have cq:=(bl.c0 U).t3
 refine b0 B4 underlying41 P9 cq fun bq eO br V eP cr=>(lv (C4 (cs:=#[V3 bn bo bp,V3 bq 0 0]) b81 I9 rfl (by kernel_rfl)) (al I9 cr fun m eQ ct=>?_))
 have cu:SH _ _ _ _ _ [r5 m [V3 none 0 0,V3 none 0 0] 43,_,_,_,_]:=ct
 refine lw [V3 bn bo bp,V3 bq 0 0] I9 cu fun eR cv=>(Q9 (mv rfl (lv (p7 underlying40 rfl (ay.mono ((S.trans U.le).trans V))) (lv (r_m rfl) (nq ?_)))))
 obtain⟨bL,cw,cx⟩:=ob cn
 refine j9 (fun E' w'=>∃X Y aa I J O lay94 aL,E'=[(4,pt k),(5,pt m)]∧SH w K [] w' aL [r5 k [V3 none 0 0,V3 none 0 0] 43,r5 m [V3 X Y aa,V3 I J O] 43,a4s (I1 97 153 3 I J O lay94)]∧H7 br aL∧b7 E5 aL X Y aa bL.Docs∧a3O lay94 bL.Entries) ?_ ?_
 ·refine i7 ?_
  obtain⟨eS,cy,cz⟩:=ob cw
  have cA:=b4Z (TP:=153) (TI:=3) cv.f1
  have cB:=cA.f1.f4.f4.sb (sk (sk (sk (sk (sd sz)))))
  refine qF (fun (ab:Nat) (aM:A2) E' w'=>∃ac ad ae af ag ah lay112 q,E'=[(2,pt l),(4,pt k),(5,pt m),(25,V3 C f i),(26,V6 (q1.length:Int)),(27,V6 ((ab:Nat):Int))]∧SH w K [] w' q [r5 l [V3 A a b,V3 B c d] 38,r5 k [V3 none 0 0,V3 none 0 0] 43,r5 m [V3 ac ad ae,V3 af ag ah] 43,a4s (I1 97 153 3 af ag ah lay112)]∧H7 br q∧b7 E5 q ac ad ae aM.Docs∧a3O lay112 aM.Entries) cy ⟨bn,bo,bp,bq,0,0,[],br,rfl,cB,kr,(cp.mono V),⟨(fun _ h=>by cases h),rfl⟩⟩ ?_ ?_
  ·rintro ab aM _ cC eT hi121 cD ⟨ac,ad,ae,af,ag,ah,lay112,q,rfl,aN,ai,bs,bu⟩
   refine sr (lv (o4 rfl rfl) (ns (y5 rfl (b8 (by omega)) (i8 (l4 (n9 (i7 (sr ?_))))))))
   obtain⟨s,cE,cF⟩:=ob cD
   refine li underlying40 C8 (b7.mono (((S.trans U.le).trans V).trans ai) ay) cE fun cG cH eU cI cJ=>?_
   obtain⟨D,G,H,az,aA,aB,rfl,cK,bv,eV⟩:=cI
   have cL:D7 _ cG cH [V6 s.Id,V3 D G H,V3 az aA aB]:=cJ
   refine lv (C9 C8 rfl aN cL rfl) (al C8 aN fun R eW cM=>?_)
   have cN:SH _ _ _ _ _ [r5 R [V6 0,V3 none 0 0,V3 none 0 0] 64,_,_,_,_]:=cM
   refine lw [V6 s.Id,V3 D G H,V3 az aA aB] C8 cN fun eX bM=>(nr (fl S7 rfl a3p m0 bM rfl (lv (p7 underlying61 rfl bv) (lv (r_m rfl) (nq ?_)))))
   obtain⟨bN,cO,cP⟩:=ob cF
   refine j9 (fun E' w'=>∃aO aP aQ aR aS aT lay162 aC,E'=[(2,pt l),(4,pt k),(5,pt m),(25,V3 C f i),(26,V6 (q1.length:Int)),(27,V6 ((ab:Nat):Int))]∧SH w K [] w' aC [r5 l [V3 A a b,V3 B c d] 38,r5 k [V3 none 0 0,V3 none 0 0] 43,r5 m [V3 aO aP aQ,V3 aR aS aT] 43,a4s (I1 97 153 3 aR aS aT lay162)]∧H7 q aC∧b7 E5 aC aO aP aQ bN.Docs∧a3O lay162 bN.Entries) ?_ ?_
   ·refine i7 ?_
    obtain⟨eY,cQ,cR⟩:=ob cO
    refine qF (fun (aU:Nat) (aV:A2) E' w'=>∃aj ak am an ao ap lay180 aq,E'=[(2,pt l),(4,pt k),(5,pt m),(7,pt R),(25,V3 C f i),(26,V6 (q1.length:Int)),(27,V6 ((ab:Nat):Int)),(32,V3 D G H),(33,V6 (s.Fields.length:Int)),(34,V6 ((aU:Nat):Int))]∧SH w K [] w' aq [r5 l [V3 A a b,V3 B c d] 38,r5 k [V3 none 0 0,V3 none 0 0] 43,r5 m [V3 aj ak am,V3 an ao ap] 43,a4s (I1 97 153 3 an ao ap lay180),r5 R [V6 s.Id,V3 D G H,V3 az aA aB] 64]∧H7 q aq∧b7 E5 aq aj ak am aV.Docs∧a3O lay180 aV.Entries) cQ ⟨ac,ad,ae,af,ag,ah,lay112,q,rfl,bM.f4.f4.f4.f4,kr,bs,bu⟩ ?_ ?_
    ·rintro aU aV _ cS eZ hi187 cT ⟨aj,ak,am,an,ao,ap,lay180,aq,rfl,aW,ar,bz,bA⟩
     refine sr (lv (o4 rfl rfl) (ns (y5 rfl (b8 (by omega)) (i8 (l4 (n9 (i7 (sr ?_))))))))
     obtain⟨au,cU,cV⟩:=ob cT
     refine li underlying61 J6 (bv.mono ar) cU fun cW cX fb cY cZ=>?_
     obtain⟨rfl,da,db⟩:=cY
     have dc:D7 _ cW cX [sv au.Name,sv au.Text]:=cZ
     refine lv (C9 J6 rfl aW dc rfl) (al J6 aW fun bB fc dd=>?_)
     have de:SH _ _ _ _ _ [r5 bB [sv [],sv []] 118,_,_,_,_,_]:=dd
     refine lw [sv au.Name,sv au.Text] J6 de fun fd aX=>(nr (lv (s7 (ds:=[V3 A a b,V3 B c d]) E1 rfl m1 aX rfl rfl) (fl a5T rfl D8 m0 aX rfl ?_)))
     obtain⟨df,dg,dh⟩:=ob cV
     refine lk b5J (V8 F aX.enter0 (b7.mono ((((S.trans U.le).trans V).trans ai).trans ar) bH) (b7.mono ((((S.trans U.le).trans V).trans ai).trans ar) bI) db dg) ?_
     rintro fe fg ⟨di,dj,dk,bC,rfl,bD,bE⟩
     have dl:=(aX.c0 bD).t7
     refine lv (p7 underlying101 rfl bE) (lv (r_m rfl) (nq ?_))
     obtain⟨bO,dm,dn⟩:=ob dh
     refine j9 (fun E' w'=>∃aY aZ ba bb bc bd lay233 aD,E'=[(2,pt l),(4,pt k),(5,pt m),(7,pt R),(25,V3 C f i),(26,V6 (q1.length:Int)),(27,V6 ((ab:Nat):Int)),(32,V3 D G H),(33,V6 (s.Fields.length:Int)),(34,V6 ((aU:Nat):Int))]∧SH w K [] w' aD [r5 l [V3 A a b,V3 B c d] 38,r5 k [V3 none 0 0,V3 none 0 0] 43,r5 m [V3 aY aZ ba,V3 bb bc bd] 43,a4s (I1 97 153 3 bb bc bd lay233),r5 R [V6 s.Id,V3 D G H,V3 az aA aB] 64]∧H7 bC aD∧b7 E5 aD aY aZ ba bO.Docs∧a3O lay233 bO.Entries) ?_ ?_
     ·refine i7 ?_
      obtain⟨fh,dp,dq⟩:=ob dm
      have dt:=dl.f1.f6.f6.f6.f6.f6.sb (sk (sk (sk (sk (sk (sk (sd sz)))))))
      refine qF (fun (bP:Nat) (be:A2) E' w'=>∃aE aF aG aH aI aJ lay251 aw,E'=[(2,pt l),(4,pt k),(5,pt m),(7,pt R),(9,pt bB),(25,V3 C f i),(26,V6 (q1.length:Int)),(27,V6 ((ab:Nat):Int)),(32,V3 D G H),(33,V6 (s.Fields.length:Int)),(34,V6 ((aU:Nat):Int)),(41,V3 di dj dk),(42,V6 (df.length:Int)),(43,V6 ((bP:Nat):Int))]∧SH w K [] w' aw [r5 l [V3 A a b,V3 B c d] 38,r5 k [V3 none 0 0,V3 none 0 0] 43,r5 m [V3 aE aF aG,V3 aH aI aJ] 43,a4s (I1 97 153 3 aH aI aJ lay251),r5 R [V6 s.Id,V3 D G H,V3 az aA aB] 64,r5 bB [sv au.Name,sv au.Text] 118]∧H7 bC aw∧b7 E5 aw aE aF aG be.Docs∧a3O lay251 be.Entries) dp ⟨aj,ak,am,an,ao,ap,lay180,bC,rfl,dt,kr,(bz.mono bD.le),bA⟩ ?_ ?_
      ·rintro bP be _ du fi hi261 dv ⟨aE,aF,aG,aH,aI,aJ,lay251,aw,rfl,bf,bg,bF,bG⟩
       refine sr (lv (o4 rfl rfl) (ns (y5 rfl (b8 (by omega)) (i8 (l4 (n9 (i7 (sr ?_))))))))
       obtain⟨ax,dw,dx⟩:=ob dv
       refine li underlying101 E3 (bE.mono bg) dw fun dy dz fj dA dB=>?_
       obtain⟨rfl,dC,dD⟩:=dA
       have dE:D7 _ dy dz [sv ax.Text,V6 ax.At]:=dB
       refine lv (C9 E3 rfl bf dE rfl) (al E3 bf fun dF fk dG=>?_)
       have dH:SH _ _ _ _ _ [r5 dF [sv [],V6 0] 104,_,_,_,_,_,_]:=dG
       refine lw [sv ax.Text,V6 ax.At] E3 dH fun fm bh=>(nq (j3 (fl a1E rfl D8 m6 bh rfl (lv (s7 (ds:=[sv ax.Text,V6 ax.At]) E3 rfl m0 bh rfl rfl) (fl T9 rfl G4 m5 bh rfl ?_)))))
       obtain⟨fn,dI,dJ⟩:=ob dx
       have bQ:=bh.f4.f4
       refine lk c0z (a7v F bQ.e2 bF bG da dC dD cK dI) ?_
       rintro fo fp ⟨dK,dL,dM,dN,dO,dP,lay296,dQ,rfl,bR,dR,dS⟩
       have dT:=(bQ.c2 bR).t7
       refine nb (qg (lv (u3 rfl rfl (x9 hi261 (b7.max bE))) (mv rfl (i5 ?_))))
       cases oi dJ
       exact qd ⟨dK,dL,dM,dN,dO,dP,lay296,dQ,rfl,dT.f6.f6.f3.f3.f6.f6.s,(bg.trans bR.le),dR,dS⟩
      rintro be _ du dU ⟨aE,aF,aG,aH,aI,aJ,lay251,aw,rfl,bf,bg,bF,bG⟩
      subst dU
      refine sr (lv (o4 rfl rfl) (ns (y4 rfl (c6 (by omega)) (p9 (c9 (c9 (j7 ?_)))))))
      cases oi dq
      exact qd ⟨aE,aF,aG,aH,aI,aJ,lay251,aw,rfl,bf.s,bg,bF,bG⟩
     rintro _ fq ⟨aY,aZ,ba,bb,bc,bd,lay233,aD,rfl,dV,dW,dX,dY⟩
     refine q7 (qg (lv (u3 rfl rfl (x9 hi187 (b7.max bv))) (mv rfl (i5 ?_))))
     cases oi dn
     exact qd ⟨aY,aZ,ba,bb,bc,bd,lay233,aD,rfl,dV,((ar.trans bD.le).trans dW),dX,dY⟩
    rintro aV _ cS dZ ⟨aj,ak,am,an,ao,ap,lay180,aq,rfl,aW,ar,bz,bA⟩
    subst dZ
    refine sr (lv (o4 rfl rfl) (ns (y4 rfl (c6 (by omega)) (p9 (c9 (c9 (j7 ?_)))))))
    cases oi cR
    exact qd ⟨aj,ak,am,an,ao,ap,lay180,aq,rfl,aW.s,ar,bz,bA⟩
   rintro _ fr ⟨aO,aP,aQ,aR,aS,aT,lay162,aC,rfl,ea,eb,ec,ed⟩
   refine q7 (qg (lv (u3 rfl rfl (x9 hi121 (b7.max (ay.mono ((S.trans U.le).trans V))))) (mv rfl (i5 ?_))))
   cases oi cP
   exact qd ⟨aO,aP,aQ,aR,aS,aT,lay162,aC,rfl,ea,(ai.trans eb),ec,ed⟩
  rintro aM _ cC ee ⟨ac,ad,ae,af,ag,ah,lay112,q,rfl,aN,ai,bs,bu⟩
  subst ee
  refine sr (lv (o4 rfl rfl) (ns (y4 rfl (c6 (by omega)) (p9 (c9 (c9 (j7 ?_)))))))
  cases oi cz
  exact qd ⟨ac,ad,ae,af,ag,ah,lay112,q,rfl,aN.s,ai,bs,bu⟩
 rintro _ fs ⟨X,Y,aa,I,J,O,lay94,aL,rfl,bS,ft,ef,eg⟩
 refine qr (fl P7 rfl a2A m1 bS rfl ?_)
 obtain⟨fu,cs315,eh,hrow317,hm318,ei⟩:=b7G bS.f2 eg
 obtain⟨fv,ej,ek⟩:=ob cx
 refine A7 wn rfl (A6 (vs:=[V3 I J O,.func (.func 89) #[] #[]]) c0A rfl) (b41 (T:=B4) sortLay88 b21 rfl (fun w=>Go.Fk.a2j P9 w) (fun w=>Go.Fk.H8 P9 w) (fun a b=>L3 F a b) 89 (Go.Proofs.enters_of func89 (by kernel_rfl) rfl) ei hrow317 hm318 (fun K1 W v x u y r hW h1 h2 hm=>by
  obtain⟨fx,fy,fz,rfl,en,eo,ep⟩:=h1
  obtain⟨fA,fB,fC,rfl,eq,es,et⟩:=h2
  exact(a7u (dr:=⟨True⟩) F (SH.start (dr:=⟨True⟩) hW) en eo ep eq es et hm).mono fun e w' ⟨K',he,hS',_⟩=>⟨K',he,hS'⟩) ej) ?_
 rintro fD fE ⟨cs335,rfl,bT,hrow337,hm338⟩
 refine⟨_,rfl,?_⟩
 refine nr (lv (s7 (ds:=[V3 X Y aa,V3 I J O]) I9 rfl m2 bT rfl rfl) (lw [V3 X Y aa,V3 I J O] I9 bT.f1 fun fF eu=>(nq (l7 ?_))))
 obtain⟨ev,ew,ex,bU⟩:=SH.freezeI eu.f1 hrow337 hm338
 cases oi ek
 exact ez results46 I9 bU m1 ⟨X,Y,aa,I,J,O,ev,rfl,bU.s,(ef.mono (eh.trans ew)),ex⟩

theorem V9 {q0:List v8}{q1:List v8}{r:Bool}(hS:SH w K [] w K [])(l:b7 B4 K A a b q0)(O:b7 B4 K B c d q1)(hm:C1 F q0 q1=some r):
  Calls prog 45 #[V3 A a b,V3 B c d,.func (.func 47) #[] #[]] w (R_b w K r):=by
 rw [C1] at hm
 refine ci func45 u ntmps45 (sr (lv (M7 u) (Q9 (mv u (lv (p7 underlying41 u l) (mv u (lv (p7 underlying41 u O) (lv (U5 u u) (nq ?_)))))))))
 refine a0n u (fun H=>?_) (fun H=>?_)
 ·have I:=a3w H hm
  refine sr (lv (M7 u) (nq (rr ?_)))
  cases oi I
  exact ey results45 ⟨K,u,hS⟩
 have I:=a3v H hm
 refine i8 (qs (sr (mv u (lv (p7 underlying41 u l) (lv (r_m u) (nq ?_))))))
 obtain⟨aa,ab,m⟩:=ob I
 refine j9 (IE aa w K [] K [] []) ?_ ?_
 ·refine i7 ?_
  obtain⟨aQ,ac,R⟩:=ob ab
  refine qf (fun (S:Nat) (T:Unit)=>IV w K [] K [(1,V3 B c d),(2,.func (.func 47) #[] #[]),(15,V3 A a b),(16,V6 (q0.length:Int)),(17,V6 ((S:Nat):Int))] []) ac ⟨K,u,hS,kr⟩ ?_ ?_
  ·rintro S T _ ad aR hi29 ae af ⟨U,rfl,o,k⟩
   refine sr (lv (o4 u u) (ns (y5 u (b8 (by omega)) (i8 (l4 (n9 (i7 (sr (mv u ?_)))))))))
   obtain⟨f,ag,ah⟩:=ob ae
   refine li underlying41 P9 (l.mono k) ag fun ai aj aS ak am=>?_
   obtain⟨q,s,x,rfl,an,ao,ap⟩:=ak
   have aq:D7 _ ai aj [sv f.Field,sv f.Term,V3 q s x]:=am
   refine lv (C9 P9 u o aq u) (al P9 o fun ar aT au=>?_)
   have aw:SH _ _ _ _ _ [r5 ar [sv [],sv [],V3 none 0 0] 97]:=au
   refine av u (lw [sv f.Field,sv f.Term,V3 q s x] P9 aw fun aU V=>(nr (mv u (mv u ?_))))
   obtain⟨i,ax,ay⟩:=ob ah
   refine li underlying41 P9 (O.mono k) ax fun az aA aV aB aC=>?_
   obtain⟨y,C,D,rfl,aD,aE,aF⟩:=aB
   have aG:D7 _ az aA [sv i.Field,sv i.Term,V3 y C D]:=aC
   refine lv (C9 P9 u V aG u) (al P9 V fun aH aW aI=>?_)
   have aJ:SH _ _ _ _ _ [r5 aH [sv [],sv [],V3 none 0 0] 97,_]:=aI
   refine lw [sv i.Field,sv i.Term,V3 y C D] P9 aJ fun aX G=>(nr (mv u (lv (s7 (ds:=[sv f.Field,sv f.Term,V3 q s x]) P9 u m1 G u u) (lv (s7 (ds:=[sv i.Field,sv i.Term,V3 y C D]) P9 u m0 G u u) ?_))))
   obtain⟨aY,aK,aL⟩:=ob ay
   refine A7 wn u (a8T (vs:=[.agg #[sv f.Field,sv f.Term,V3 q s x],.agg #[sv i.Field,sv i.Term,V3 y C D]]) (cap:=#[]) c0p u u) (a57 F G.enter0 an ao ap aD aE aF aK) ?_
   rintro aZ ba ⟨W,rfl,X⟩
   refine⟨_,u,?_⟩
   have Y:=(G.c0 X).t2
   refine lv (y3 u) (nq (D0 aL u (fun aM J=>?_) (fun aM J=>?_)))
   ·refine sr (lv (M7 u) (nq (l7 (j4 (g6 (g6 ?_))))))
    cases oi J
    cases af _ u
    refine j4 (g6 ?_)
    cases oi R
    refine g6 ?_
    cases oi m
    exact ey results45 ⟨W,u,Y.s⟩
   refine i8 (q7 (qg (lv (u3 u u (x9 hi29 (b7.max l))) (mv u (i5 ?_)))))
   cases oi J
   exact qd ⟨_,u,W,u,Y.s,(k.trans X.le)⟩
  rintro T _ ad aN ⟨U,rfl,o,k⟩
  subst aN
  refine sr (lv (o4 u u) (ns (y4 u (c6 (by omega)) (p9 (c9 (c9 (j7 ?_)))))))
  cases oi R
  exact I6 ⟨_,U,u,u,o,k⟩ trivial
 rintro _ bb ⟨bc,aO,rfl,rfl,aP,bd⟩
 have m:=D9 m
 refine qr (lv (r_t u) (nq (l7 ?_)))
 cases oi m
 exact ey results45 ⟨aO,u,aP⟩

theorem a2T {q0:o0}{q1:A2}{r:Bool}(hS:SH w K [] w K [])(T:b7 B3 K A a b q0.Stops)(U:b7 G5 K B c d q0.Syns)(V:b7 E5 K C f i q1.Docs)(ab:b7 B4 K D k l q1.Entries)(hm:T6 F q0 q1=some r):
  Calls prog 14 #[.agg #[V3 A a b,V3 B c d],.agg #[V3 C f i,V3 D k l]] w (R_b w K r):=by
 rw [T6] at hm
 refine ci func14 u ntmps14 (sr (bx u hS fun s az ac=>?_))
 have ad:SH _ _ _ _ _ [r5 s [V3 A a b,V3 B c d] 38]:=ac
 refine bx u ad fun x aA ae=>?_
 have O:SH _ _ _ _ _ [r5 x [V3 C f i,V3 D k l] 43,_]:=ae
 refine lv (M7 u) (ns (n9 ?_))
 obtain⟨af,ag,ah⟩:=ob hm
 refine j9 (IV w K [] K [(2,pt s),(3,pt x),(13,.bool af)] [r5 s [V3 A a b,V3 B c d] 38,r5 x [V3 C f i,V3 D k l] 43]) ?_ ?_
 ·refine j3 (lv (s7 (ds:=[V3 A a b,V3 B c d]) E1 u m1 O u u) ?_)
  obtain⟨aB,ai,aj⟩:=ob ag
  refine lk b6Z (a08 F O.enter0 T U ai) ?_
  rintro aC aD ⟨ak,rfl,y⟩
  have G:=(O.c0 y).t2
  refine lv (y3 u) (mv u (bt aj (fun m R=>?_) (fun m R=>?_)))
  ·refine lu m (lu m (lu m (lu m (lv (L1 u m u) (i5 ?_)))))
   cases oi R
   exact qd ⟨ak,u,G.f1,y.le⟩
  refine lg m (c7 a0q u) (lg m (x8 a42 u m0 G u) ?_)
  obtain⟨aE,al,am⟩:=ob R
  refine A7 (wg u u m) u (A6 (vs:=[V3 C f i]) b9P u) (a4k F G.enter0 (V.mono y.le) al) ?_
  rintro aF aG ⟨an,rfl,W⟩
  refine⟨_,u,?_⟩
  have ao:=(G.c0 W).t2
  refine lg m (y3 u) (lv (m9 u m u) (i5 ?_))
  cases oi am
  exact qd ⟨an,u,ao.f1,(y.le.trans W.le)⟩
 rintro _ aH ⟨X,rfl,Y,H⟩
 refine l4 (D0 ah u (fun ap S=>?_) (fun ap S=>?_))
 ·refine sr (lv (M7 u) (nq (rr ?_)))
  cases oi S
  exact ey results14 ⟨X,u,Y.s⟩
 refine i8 (qs ?_)
 have o:=Y.drew
 refine j_0 (fun w'=>F0 X w'∧A4 s [V3 A a b,V3 B c d] w'∧A4 x [V3 C f i,V3 D k l] w') 9 [] mixed ⟨o.hasK kr,o.hasObj m0,o.hasObj m1⟩ (jh 0 u (fun _ h=>B7 (ds:=[V3 A a b,V3 B c d]) E1 u u u h.2.1) (jv 1 u (c7 a0q u) (jh 2 u (fun _ h=>z8 a42 u u h.2.2) (jv 5 u (c7 P7 u) (jh 6 u (fun _ h=>z8 a2A u u h.2.2) (j1 3 u ?_))))))
 obtain⟨aI,aq,ar⟩:=ob S
 refine lk c0o (a9q F o.enter0 (T.mono H) (U.mono H) (V.mono H) aq) ?_
 rintro aJ aK ⟨aL,aM,aN,aO,aP,aQ,aR,rfl,I,aS,au⟩
 have q:=(o.c0 I).t3
 refine j_o ⟨q.hasK I.le,q.hasObj m1,q.hasObj m2⟩ (jv 4 u (b6j b8z a2A u (.inl ⟨u,u⟩)) (j1 7 u ?_))
 obtain⟨aT,aw,ax⟩:=ob ar
 refine lk c0n (V9 F q.enter0 au (ab.mono (H.trans I.le)) aw) ?_
 rintro aU aV ⟨ay,rfl,aa⟩
 have J:=(q.c0 aa).t3
 refine j_o ⟨J.hasK (I.le.trans aa.le),J.hasObj m1,J.hasObj m2⟩ (jv 8 u (r4 u) (jd (l4 (l7 ?_))))
 cases oi ax
 exact ey results14 ⟨ay,u,J.s⟩

theorem a1a {q0:o0}{q1:l3}{r:l3}(hS:SH w K [] w K [])(C:b7 B3 K A a b q0.Stops)(D:b7 G5 K B c d q0.Syns)(o:q1.length≤maxLen)(hm:N3 F q0 q1=some r):
  Calls prog 15 #[.agg #[V3 A a b,V3 B c d],sv q1] w fun e w'=>∃K',e= .returned (sv r)∧SH w K [] w' K' []∧r.length≤maxLen:=by
 rw [N3] at hm
 refine ci func15 u ntmps15 (sr (bx u hS fun G af H=>?_))
 have q:SH _ _ _ _ _ [r5 G [V3 A a b,V3 B c d] 38]:=H
 refine lv (r_s u) (Q9 (mv u ?_))
 obtain⟨ag,I,J⟩:=ob hm
 refine lk a5l (D2 F q.enter0 o I) ?_
 rintro ah ai ⟨O,rfl,i⟩
 have f:=(q.c0 i).t1
 refine lv (y3 u) (nq (D0 J u (fun R k=>?_) (fun R k=>?_)))
 ·refine sr (lv (r_s u) (nq (rr ?_)))
  cases oi k
  exact ey results15 ⟨O,u,f.s,(by decide :([]:l3).length≤maxLen)⟩
 refine i8 (qr (lv (s7 (ds:=[V3 A a b,V3 B c d]) E1 u m0 f u u) (mv u ?_)))
 obtain⟨aj,S,T⟩:=ob k
 refine lk b5J (V8 F f.enter0 (C.mono i.le) (D.mono i.le) o S) ?_
 rintro ak al ⟨am,an,ao,s,rfl,U,x⟩
 have l:=(f.c0 U).t2
 refine av u (Q9 (mv u (lv (p7 underlying101 u x) (lv (F7 u u) (nq (D0 T u (fun V m=>?_) (fun V m=>?_)))))))
 ·refine sr (lv (r_s u) (nq (rr ?_)))
  cases oi m
  exact ey results15 ⟨s,u,l.s,(by decide :([]:l3).length≤maxLen)⟩
 refine i8 (qr (mv u ?_))
 obtain⟨y,W,X⟩:=ob m
 refine li underlying101 E3 x W fun Y aa ap ab ac=>?_
 obtain⟨rfl,ad,aq⟩:=ab
 have ae:D7 _ Y aa [sv y.Text,V6 y.At]:=ac
 refine fa a0h u (lv (z2 D8 u l (ae 0 _ u)) (av u (nq (l7 ?_))))
 cases oi X
 exact ey results15 ⟨s,u,l.s,ad⟩

theorem X7 {q0:Int}{q1:Int}{q2:Int}{q3:Int}{q4:Int}{r:a5K×Bool}(hS:SH w K [] w K [])(R:j5 q0)(S:j5 q1)(ad:j5 q2)(T:j5 q3)(ae:j5 q4)(hm:R8 F q0 q1 q2 q3 q4=some r):
  Calls prog 192 #[V6 q0,V6 q1,V6 q2,V6 q3,V6 q4] w fun e w'=>∃K',e= .returned (.tuple #[.agg #[V6 r.1.Up,V6 r.1.Down],.bool r.2])∧SH w K [] w' K' []∧j5 r.1.Up∧j5 r.1.Down:=by
 rw [R8] at hm
 refine ci func192 u ntmps192 (sr (al Y0 hS fun i w7 af=>?_))
 have U:SH _ _ _ _ _ [r5 i [V6 0,V6 0] 257]:=af
 refine lv (M7 u) (ns (n9 ?_))
 obtain⟨ag,ah,ai⟩:=ob hm
 refine j9 (IV w K [] K [(0,V6 q0),(1,V6 q1),(2,V6 q2),(3,V6 q3),(4,V6 q4),(10,pt i),(38,.bool ag)] [r5 i [V6 0,V6 0] 257]) ?_ ?_
 ·refine j3 (mv u ?_)
  obtain⟨aZ,aj,ak⟩:=ob ah
  refine lk a19 (z6 F U.enter0 R (by decide :j5 1) (by decide :j5 80) aj) ?_
  rintro ba bb ⟨am,rfl,k⟩
  have q:=(U.c0 k).t1
  refine lv (y3 u) (mv u (bt ak (fun a s=>?_) (fun a s=>?_)))
  ·refine lu a (lu a (lu a (lu a (lv (L1 u a u) (mv u (lu u (lu u (lu u (lv (L1 u u u) ?_)))))))))
   refine mv u (lu u (lu u (lu u (lu u (lv (L1 u u u) (mv u (lu u (lu u (lu u ?_)))))))))
   refine lu u (lv (L1 u u u) (i5 ?_))
   cases oi s
   exact qd ⟨am,u,q,k.le⟩
  refine lg a (i4 u) (lg a (i4 u) ?_)
  obtain⟨bc,an,ao⟩:=ob s
  refine A7 (wg u u a) u (A6 (vs:=[V6 q1,V6 q0,V6 80]) a19 u) (z6 F q.enter0 S R (by decide :j5 80) an) ?_
  rintro bd be ⟨ap,rfl,l⟩
  refine⟨_,u,?_⟩
  have x:=(q.c0 l).t1
  refine lg a (y3 u) (lv (m9 u a u) (mv u (bt ao (fun f y=>?_) (fun f y=>?_))))
  ·refine lu f (lu f (lu f (lv (L1 u f u) (mv u (lu u (lu u (lu u (lu u (lv (L1 u u u) ?_)))))))))
   refine mv u (lu u (lu u (lu u (lu u (lv (L1 u u u) (i5 ?_))))))
   cases oi y
   exact qd ⟨ap,u,x,(k.le.trans l.le)⟩
  refine lg f (i4 u) ?_
  obtain⟨bf,aq,ar⟩:=ob y
  refine A7 (wg u u f) u (A6 (vs:=[V6 q3,V6 1,V6 16]) a19 u) (z6 F x.enter0 T (by decide :j5 1) (by decide :j5 16) aq) ?_
  rintro bg bh ⟨au,rfl,m⟩
  refine⟨_,u,?_⟩
  have A:=(x.c0 m).t1
  refine lg f (y3 u) (lv (m9 u f u) (mv u (bt ar (fun b B=>?_) (fun b B=>?_))))
  ·refine lu b (lu b (lu b (lu b (lv (L1 u b u) (mv u (lu u (lu u (lu u (lu u ?_)))))))))
   refine lv (L1 u u u) (i5 ?_)
   cases oi B
   exact qd ⟨au,u,A,((k.le.trans l.le).trans m.le)⟩
  refine lg b (i4 u) (lg b (i4 u) ?_)
  obtain⟨bi,aw,ax⟩:=ob B
  refine A7 (wg u u b) u (A6 (vs:=[V6 q4,V6 1,V6 q3]) a19 u) (z6 F A.enter0 ae (by decide :j5 1) T aw) ?_
  rintro bj bk ⟨ay,rfl,C⟩
  refine⟨_,u,?_⟩
  have D:=(A.c0 C).t1
  refine lg b (y3 u) (lv (m9 u b u) (mv u (bt ax (fun d G=>?_) (fun d G=>?_))))
  ·refine lu d (lu d (lu d (lu d (lv (L1 u d u) (i5 ?_)))))
   cases oi G
   exact qd ⟨ay,u,D,(((k.le.trans l.le).trans m.le).trans C.le)⟩
  refine lg d (i4 u) (lg d (i4 u) ?_)
  obtain⟨bl,az,aA⟩:=ob G
  refine A7 (wg u u d) u (A6 (vs:=[V6 q2,V6 q1,V6 1280]) a19 u) (z6 F D.enter0 ad S (by decide :j5 1280) az) ?_
  rintro bm bn ⟨aB,rfl,V⟩
  refine⟨_,u,?_⟩
  have aC:=(D.c0 V).t1
  refine lg d (y3 u) (lv (m9 u d u) (i5 ?_))
  cases oi aA
  exact qd ⟨aB,u,aC,((((k.le.trans l.le).trans m.le).trans C.le).trans V.le)⟩
 rintro _ bo ⟨H,rfl,aD,bp⟩
 refine l4 (D0 ai u (fun aE I=>?_) (fun aE I=>?_))
 ·refine sr ?_
  cases I
 refine i8 (qr (lv (R1 u) (ns ?_)))
 obtain⟨W,aF,aG⟩:=ob I
 refine j9 (IW w K [] H [(0,V6 q0),(1,V6 q1),(2,V6 q2),(3,V6 q3),(10,pt i),(12,V6 W)] [r5 i [V6 0,V6 0] 257] (j5 W)) ?_ ?_
 ·refine i7 ?_
  obtain⟨bq,aH,aI⟩:=ob aF
  refine qw (fun (J:Int)=>IW w K [] H [(0,V6 q0),(1,V6 q1),(2,V6 q2),(3,V6 q3),(4,V6 q4),(10,pt i),(12,V6 J)] [r5 i [V6 0,V6 0] 257] (j5 J)) aH ⟨H,u,aD,kr,R3⟩ ?_
  rintro J _ br bs aJ aK ⟨X,rfl,Y,aa,aL⟩
  refine n9 (sr (mv u (mv u (lv (u6 u u) ?_))))
  obtain⟨bu,aM,aN⟩:=ob aJ
  refine lv (b8X u u aM) (mv u (lv (U4 u u) (nq (D0 aN u (fun aO O=>?_) (fun aO O=>?_)))))
  ·refine i8 (l4 (i7 (j3 (mv u (lv (u6 u u) (av u (nb ?_)))))))
   cases oi O
   exact qd ⟨_,u,X,u,Y,aa,(s6 _)⟩
  refine p9 (c9 (c9 ?_))
  cases oi O
  cases aK _ u
  refine j7 ?_
  cases oi aI
  exact qd ⟨X,u,Y,aa,aL⟩
 rintro _ bv ⟨bx,rfl,ab,bz,bA⟩
 refine qr (mv u (lv (a1k u u) (mv u (lv (u6 u u) (lv (a1k u u) (mv u (lv (a1k u u) (lv (u6 u u) (mv u ?_)))))))))
 refine lv (a1k u u) (mv u (lv (a1k u u) (mv u ?_)))
 obtain⟨bB,aP,aQ⟩:=ob aG
 refine lv (a4y u u aP) (lv (u6 u u) ?_)
 obtain⟨o,aR,aS⟩:=ob aQ
 refine lk b9G (a9p F ab.enter0 (s6 _) (s6 _) aR) ?_
 rintro bC bD ⟨aT,rfl,aU,aV,aW⟩
 have aX:=(ab.c0 aU).t1
 refine lv (B6 u u) (lv (B6 u u) (lw [V6 o.1.Up,V6 o.1.Down] Y0 aX fun bE ac=>(av u (nq (l7 ?_)))))
 cases oi aS
 exact O8 (vs:=[_,_]) results192 ⟨⟨_,_,u,A5 Y0 (cs:=[V6 o.1.Up,V6 o.1.Down]) (fun j c e=>by rw [Nat.zero_add,ac.mem_obj m0];exact e) (.inl ⟨u,u,u⟩)⟩,u,trivial⟩ ⟨aT,u,ac.s,aV,aW⟩

theorem M1 {q0:J8}{q1:o0}{q2:l3}{q3:Int}{r:Int}(hS:SH w K Z w K [r5 g1 [V3 A a b,V3 B c d,V3 C f i,V3 D k l] 161])(af:b7 B3 K A a b q0.c_.Stops)(ag:b7 G5 K B c d q0.c_.Syns)(ah:b7 E5 K C f i q0.s_.Docs)(ai:b7 B4 K D k l q0.s_.Entries)(aj:b7 B3 K G m n q1.Stops)(ak:b7 G5 K H o p q1.Syns)(am:q2.length≤maxLen)(an:j5 q3)(hm:E4 F q0 q1 q2 q3=some r):
  Calls prog 191 #[.pointer (some ⟨g1,2,none⟩),.agg #[V3 G m n,V3 H o p],sv q2,V6 q3] w fun e w'=>∃K',e= .returned (V6 r)∧SH w K Z w' K' [r5 g1 [V3 A a b,V3 B c d,V3 C f i,V3 D k l] 161]∧j5 r:=by
 rw [E4] at hm
 refine ci func191 u ntmps191 (sr (bx u hS fun X aI ao=>?_))
 have ap:SH _ _ _ _ _ [r5 X [V3 G m n,V3 H o p] 38,_]:=ao
 refine lv (R1 u) (nr (mv u (mv u ?_)))
 obtain⟨I,aq,ar⟩:=ob hm
 have Y:=ap.f1
 refine lk b9g (a2e F Y.e1 af ag ah ai an aq) ?_
 rintro aJ aK ⟨J,O,R,S,T,U,aa,rfl,V,au,aw,ax⟩
 have ay:=(Y.c1 V).t2
 refine mv u (lv (B6 u u) (lv (B6 u u) (al C8 ay fun ab aL az=>?_)))
 have aA:SH _ _ _ _ _ [r5 ab [V6 0,V3 none 0 0,V3 none 0 0] 64,_,_]:=az
 refine lw [V6 I.1.Id,V3 J O R,V3 S T U] C8 aA fun aM ac=>(av u (Q9 (mv u (lv (y3 u) (nq (D0 ar u (fun aB W=>?_) (fun aB W=>?_)))))))
 ·refine sr (lv (R1 u) (nq (rr ?_)))
  cases oi W
  exact ey results191 ⟨aa,u,ac.s,R3⟩
 refine i8 (qs ?_)
 have q:=ac.drew
 refine wh1 (fun w'=>F0 aa w'∧A4 X [V3 G m n,V3 H o p] w'∧A4 ab [V6 I.1.Id,V3 J O R,V3 S T U] w') (fun w'=>True) 7 [] mixed ⟨q.hasK kr,q.hasObj m2,q.hasObj m0⟩ (fun _=>trivial) (gh (fun _ h=>B7 (ds:=[V3 G m n,V3 H o p]) E1 u u u h.2.1) (gh (fun _ h=>B7 (ds:=[V6 I.1.Id,V3 J O R,V3 S T U]) C8 u u u h.2.2) (gt (i4 u) (gn ?_))))
 obtain⟨aN,aC,aD⟩:=ob W
 refine lk b8q (a1v F q.enter0 au aw ax am aC) ?_
 rintro aO aP ⟨aQ,rfl,s,aE⟩
 have x:=(q.c0 s).t3
 refine i5 (qh ⟨x.hasK s.le,x.hasObj m2,x.hasObj m0⟩ (fun _=>trivial) (gn ?_))
 obtain⟨aR,aF,aG⟩:=ob aD
 refine lk b5J (V8 F x.enter0 (aj.mono (V.le.trans s.le)) (ak.mono (V.le.trans s.le)) aE aF) ?_
 rintro aS aT ⟨aU,aV,aW,aH,rfl,ad,ae⟩
 have y:=(x.c0 ad).t4
 refine i5 (qh ⟨y.hasK (s.le.trans ad.le),y.hasObj m3,y.hasObj m1⟩ (fun _=>trivial) (gt (p7 underlying101 u ae) (gt (r4 u) (gd' (l4 (l7 ?_))))))
 cases oi aG
 exact ey results191 ⟨aH,u,y.s,ae.rn⟩

theorem X2 {q0:J8}{q1:l3}{q2:l3}{q3:Int}{r:Int}(hS:SH w K Z w K [r5 g1 [V3 A a b,V3 B c d,V3 C f i,V3 D k l] 161])(x:b7 B3 K A a b q0.c_.Stops)(y:b7 G5 K B c d q0.c_.Syns)(s:b7 E5 K C f i q0.s_.Docs)(O:b7 B4 K D k l q0.s_.Entries)(R:q1.length≤maxLen)(ab:q2.length≤maxLen)(au:j5 q3)(hm:F1 F q0 q1 q2 q3=some r):
  Calls prog 146 #[.pointer (some ⟨g1,0,none⟩),sv q1,sv q2,V6 q3] w fun e w'=>∃K',e= .returned (V6 r)∧SH w K Z w' K' [r5 g1 [V3 A a b,V3 B c d,V3 C f i,V3 D k l] 161]∧j5 r:=by
 rw [F1] at hm
 refine ci func146 u ntmps146 (sr (lv (R1 u) (nr (mv u (mv u (mv u (mv u ?_)))))))
 obtain⟨cx,bq,br⟩:=ob hm
 refine lk b5G (X1 F hS.e1 x y s O R ab au bq) ?_
 rintro cy cz ⟨aY,aZ,ba,ac,rfl,m,S⟩
 have aw:=(hS.c1 m).t1
 refine av u (Q9 (mv u (lv (p7 underlying30 u S) (lv (F7 u u) (nq (D0 br u (fun bs ax=>?_) (fun bs ax=>?_)))))))
 ·refine sr (lv (R1 u) (nq (rr ?_)))
  cases oi ax
  exact ey results146 ⟨ac,u,aw,R3⟩
 refine i8 (qr (lv (R1 u) (Q9 (mv u (lv (u7 u) (fa a2I u (fl a0q u a42 m0 aw u (lv (p7 underlying40 u (s.mono m.le)) (lv (r_m u) ?_)))))))))
 refine nq ?_
 obtain⟨bb,bu,bv⟩:=ob ax
 refine j9 (IW w K Z ac [(0,pt g1),(1,sv q1),(2,sv q2),(3,V6 q3),(9,V3 aY aZ ba),(10,V6 bb)] [r5 g1 [V3 A a b,V3 B c d,V3 C f i,V3 D k l] 161] (j5 bb)) ?_ ?_
 ·refine i7 ?_
  obtain⟨cA,bx,bz⟩:=ob bu
  refine qF (fun (bc:Nat) (ad:Int)=>IW w K Z ac [(0,pt g1),(1,sv q1),(2,sv q2),(3,V6 q3),(9,V3 aY aZ ba),(10,V6 ad),(27,V3 C f i),(28,V6 (q0.s_.Docs.length:Int)),(29,V6 ((bc:Nat):Int))] [r5 g1 [V3 A a b,V3 B c d,V3 C f i,V3 D k l] 161] (j5 ad)) bx ⟨ac,u,aw,kr,R3⟩ ?_ ?_
  ·rintro bc ad _ bA cB hi54 bB ⟨ay,rfl,ae,G,bd⟩
   refine sr (lv (o4 u u) (ns (y5 u (b8 (by omega)) (i8 (l4 (n9 (i7 (sr ?_))))))))
   obtain⟨az,bC,bD⟩:=ob bB
   refine li underlying40 C8 (s.mono (m.le.trans G)) bC fun bE bF cC bG bH=>?_
   obtain⟨aA,aB,aC,aD,aE,aF,rfl,bI,cD,cE⟩:=bG
   have bJ:D7 _ bE bF [V6 az.Id,V3 aA aB aC,V3 aD aE aF]:=bH
   refine lv (C9 C8 u ae bJ u) (al C8 ae fun be cF bK=>?_)
   have bL:SH _ _ _ _ _ [r5 be [V6 0,V3 none 0 0,V3 none 0 0] 64,_]:=bK
   refine lw [V6 az.Id,V3 aA aB aC,V3 aD aE aF] C8 bL fun cG bM=>(nq ?_)
   have af:=bM.drew
   refine wh1 (fun w'=>F0 ay w'∧A4 g1 [V3 A a b,V3 B c d,V3 C f i,V3 D k l] w'∧A4 be [V6 az.Id,V3 aA aB aC,V3 aD aE aF] w') (fun w'=>True) 14 [] mixed ⟨af.hasK kr,af.hasObj m1,af.hasObj m0⟩ (fun _=>trivial) (gt (i4 u) (gt (i4 u) (gt (u7 u) (gt (c7 a2I u) (gt (i4 u) (gt (u7 u) (gt (c7 a7M u) (gh (fun _ h=>B7 (ds:=[V3 A a b,V3 B c d]) E1 u u u h.2.1) (gt (i4 u) ?_)))))))))
   refine gt (c7 T9 u) (gh (fun _ h=>z8 G4 u u h.2.2) (gn ?_))
   obtain⟨cH,bN,bO⟩:=ob bD
   have bf:=af.f1
   refine lk b5H (M1 F bf.e1 (x.mono (m.le.trans G)) (y.mono (m.le.trans G)) (s.mono (m.le.trans G)) (O.mono (m.le.trans G)) (x.mono (m.le.trans G)) (y.mono (m.le.trans G)) R bI bN) ?_
   rintro cI cJ ⟨bP,rfl,aG,cK⟩
   have ag:=(bf.c1 aG).t2
   refine i5 (qh ⟨ag.hasK aG.le,ag.hasObj m0,ag.hasObj m1⟩ (fun _=>trivial) (gt (u6 u u) (gt (r4 u) (gd' (q7 (qg (lv (u3 u u (x9 hi54 (b7.max (s.mono m.le)))) (mv u (i5 ?_)))))))))
   cases oi bO
   exact qd ⟨bP,u,ag.s,(G.trans aG.le),(s6 _)⟩
  rintro ad _ bA bQ ⟨ay,rfl,ae,G,bd⟩
  subst bQ
  refine sr (lv (o4 u u) (ns (y4 u (c6 (by omega)) (p9 (c9 (c9 (j7 ?_)))))))
  cases oi bz
  exact qd ⟨ay,u,ae,G,bd⟩
 rintro _ cL ⟨bg,rfl,bR,o,ah⟩
 refine qs ?_
 obtain⟨T,bS,bT⟩:=ob bv
 refine j9 (fun E' w'=>∃aH aI,E'=[(0,pt g1),(13,pt aH)]∧SH w K Z w' aI [r5 aH [V6 T.Up,V6 T.Down] 257,r5 g1 [V3 A a b,V3 B c d,V3 C f i,V3 D k l] 161]∧H7 bg aI∧j5 T.Up∧j5 T.Down) ?_ ?_
 ·obtain⟨cM,bh,bU⟩:=ob bS
  obtain⟨cN,aJ,bV⟩:=ob bU
  obtain⟨J,ai,aj⟩:=ob bV
  have U:=bR.drew
  refine j_0 (fun w'=>F0 bg w'∧A4 g1 [V3 A a b,V3 B c d,V3 C f i,V3 D k l] w') 33 [] mixed ⟨U.hasK kr,U.hasObj m0⟩ (jv 0 u (i4 u) (jv 1 u (p7 underlying30 u (S.mono o)) (jv 2 u (i4 u) (jv 3 u (u7 u) (jv 4 u (c7 a2I u) (jv 5 u (i4 u) (jv 6 u (u7 u) (jv 7 u (c7 a7M u) (jh 8 u (fun _ h=>B7 (ds:=[V3 A a b,V3 B c d]) E1 u u u h.2) ?_)))))))))
  refine jv 9 u (i4 u) (jv 10 u (i4 u) (jv 12 u (i4 u) (jv 13 u (i4 u) (jv 14 u (u7 u) (jv 15 u (c7 a2I u) (jv 16 u (c7 a0q u) (jh 17 u (fun _ h=>z8 a42 u u h.2) (jv 18 u (p7 underlying40 u (s.mono (m.le.trans o))) (jv 19 u (i4 u) ?_)))))))))
  refine jv 20 u (u7 u) (jv 21 u (c7 a2I u) (jv 22 u (i4 u) (jv 23 u (i4 u) (j2 11 30 u u ?_ ?_))))
  ·refine lk b5H (M1 F U.e1 (x.mono (m.le.trans o)) (y.mono (m.le.trans o)) (s.mono (m.le.trans o)) (O.mono (m.le.trans o)) (x.mono (m.le.trans o)) (y.mono (m.le.trans o)) R au bh) ?_
   rintro cO cP ⟨cQ,rfl,q,aK⟩
   have V:=(U.c1 q).t1
   refine j_o ⟨V.hasK q.le,V.hasObj m0⟩ (j2 24 30 u u ?_ ?_)
   ·refine lk b3o (H0 F V.e1 (x.mono ((m.le.trans o).trans q.le)) (y.mono ((m.le.trans o).trans q.le)) (s.mono ((m.le.trans o).trans q.le)) (O.mono ((m.le.trans o).trans q.le)) R ab aJ) ?_
    rintro cR cS ⟨cT,cU,cV,cW,rfl,H,aL⟩
    have W:=(V.c1 H).t1
    refine j_o ⟨W.hasK (q.le.trans H.le),W.hasObj m0⟩ (jv 25 u (p7 underlying95 u aL) (j2 26 30 u u ?_ ?_))
    ·refine lk b3n (X7 F W.enter0 (S.mono o).rn aK ah (s.mono (m.le.trans o)).rn aL.rn ai) ?_
     rintro cX cY ⟨bW,rfl,X,bX,bY⟩
     have aM:=(W.c0 X).t1
     refine j_o ⟨aM.hasK ((q.le.trans H.le).trans X.le),aM.hasObj m0⟩ (jv 27 u (i4 u) (jv 28 u (B6 u u) (jv 29 u (B6 u u) (j1 30 u (al Y0 aM fun bi cZ bZ=>?_)))))
     have aN:SH _ _ _ _ _ [r5 bi [V6 0,V6 0] 257,_]:=bZ
     refine j_o ⟨aN.hasK ((q.le.trans H.le).trans X.le),aN.hasObj m1⟩ (j1 31 u (lw [V6 J.1.Up,V6 J.1.Down] Y0 aN fun da aO=>(j_o ⟨aO.hasK ((q.le.trans H.le).trans X.le),aO.hasObj m1⟩ (jv 32 u (r4 u) (jd ?_)))))
     cases oi aj
     exact qd ⟨bi,bW,u,aO,((q.le.trans H.le).trans X.le),bX,bY⟩
    refine al Y0 W fun bj db ca=>?_
    have ak:SH _ _ _ _ _ [r5 bj [V6 0,V6 0] 257,_]:=ca
    refine j_o ⟨ak.hasK (q.le.trans H.le),ak.hasObj m1⟩ (j1 26 u (lk b3n (X7 F ak.enter0 (S.mono o).rn aK ah (s.mono (m.le.trans o)).rn aL.rn ai) ?_))
    rintro dc dd ⟨cb,rfl,am,cc,cd⟩
    have aP:=(ak.c0 am).t2
    refine j_o ⟨aP.hasK ((q.le.trans H.le).trans am.le),aP.hasObj m1⟩ (jv 27 u (i4 u) (jv 28 u (B6 u u) (jv 29 u (B6 u u) (j1 31 u (lw [V6 J.1.Up,V6 J.1.Down] Y0 aP fun de aQ=>(j_o ⟨aQ.hasK ((q.le.trans H.le).trans am.le),aQ.hasObj m1⟩ (jv 32 u (r4 u) (jd ?_))))))))
    cases oi aj
    exact qd ⟨bj,cb,u,aQ,((q.le.trans H.le).trans am.le),cc,cd⟩
   refine al Y0 V fun bk df ce=>?_
   have aR:SH _ _ _ _ _ [r5 bk [V6 0,V6 0] 257,_]:=ce
   refine j_o ⟨aR.hasK q.le,aR.hasObj m1⟩ (j1 24 u ?_)
   have bl:=aR.f1
   refine lk b3o (H0 F bl.e1 (x.mono ((m.le.trans o).trans q.le)) (y.mono ((m.le.trans o).trans q.le)) (s.mono ((m.le.trans o).trans q.le)) (O.mono ((m.le.trans o).trans q.le)) R ab aJ) ?_
   rintro dg dh ⟨di,dj,dk,dl,rfl,Y,bm⟩
   have an:=(bl.c1 Y).t2
   refine j_o ⟨an.hasK (q.le.trans Y.le),an.hasObj m0⟩ (jv 25 u (p7 underlying95 u bm) (j1 26 u (lk b3n (X7 F an.enter0 (S.mono o).rn aK ah (s.mono (m.le.trans o)).rn bm.rn ai) ?_)))
   rintro dm dn ⟨cf,rfl,ao,cg,ch⟩
   have aS:=(an.c0 ao).t2
   refine j_o ⟨aS.hasK ((q.le.trans Y.le).trans ao.le),aS.hasObj m0⟩ (jv 27 u (i4 u) (jv 28 u (B6 u u) (jv 29 u (B6 u u) (j1 31 u (lw [V6 J.1.Up,V6 J.1.Down] Y0 aS.f1 fun dp aT=>(j_o ⟨aT.hasK ((q.le.trans Y.le).trans ao.le),aT.hasObj m1⟩ (jv 32 u (r4 u) (jd ?_))))))))
   cases oi aj
   exact qd ⟨bk,cf,u,aT,((q.le.trans Y.le).trans ao.le),cg,ch⟩
  refine al Y0 U fun bn dq cj=>?_
  have aU:SH _ _ _ _ _ [r5 bn [V6 0,V6 0] 257,_]:=cj
  refine j_o ⟨aU.hasK kr,aU.hasObj m1⟩ (j1 11 u ?_)
  have bo:=aU.f1
  refine lk b5H (M1 F bo.e1 (x.mono (m.le.trans o)) (y.mono (m.le.trans o)) (s.mono (m.le.trans o)) (O.mono (m.le.trans o)) (x.mono (m.le.trans o)) (y.mono (m.le.trans o)) R au bh) ?_
  rintro dr dt ⟨du,rfl,I,ck⟩
  have ap:=(bo.c1 I).t2
  refine j_o ⟨ap.hasK I.le,ap.hasObj m0⟩ (j1 24 u (lk b3o (H0 F ap.e1 (x.mono ((m.le.trans o).trans I.le)) (y.mono ((m.le.trans o).trans I.le)) (s.mono ((m.le.trans o).trans I.le)) (O.mono ((m.le.trans o).trans I.le)) R ab aJ) ?_))
  rintro dv dw ⟨dx,dy,dz,dA,rfl,aa,bp⟩
  have aq:=(ap.c1 aa).t2
  refine j_o ⟨aq.hasK (I.le.trans aa.le),aq.hasObj m0⟩ (jv 25 u (p7 underlying95 u bp) (j1 26 u (lk b3n (X7 F aq.enter0 (S.mono o).rn ck ah (s.mono (m.le.trans o)).rn bp.rn ai) ?_)))
  rintro dB dC ⟨cl,rfl,ar,cm,cn⟩
  have aV:=(aq.c0 ar).t2
  refine j_o ⟨aV.hasK ((I.le.trans aa.le).trans ar.le),aV.hasObj m0⟩ (jv 27 u (i4 u) (jv 28 u (B6 u u) (jv 29 u (B6 u u) (j1 31 u (lw [V6 J.1.Up,V6 J.1.Down] Y0 aV.f1 fun dD aW=>(j_o ⟨aW.hasK ((I.le.trans aa.le).trans ar.le),aW.hasObj m1⟩ (jv 32 u (r4 u) (jd ?_))))))))
  cases oi aj
  exact qd ⟨bn,cl,u,aW,((I.le.trans aa.le).trans ar.le),cm,cn⟩
 rintro _ dE ⟨aH,aI,rfl,aX,dF,cp,cq⟩
 refine qr (lv (s7 (ds:=[V6 T.Up,V6 T.Down]) Y0 u m0 aX u u) ?_)
 obtain⟨dG,cr,cs⟩:=ob bT
 refine lk b9E (a6F F aX.enter0 cp cq (by decide :j5 1000) cr) ?_
 rintro dH dI ⟨ct,rfl,cu,cv⟩
 have cw:=(aX.c0 cu).t2
 refine av u (nq (l7 ?_))
 cases oi cs
 exact ey results146 ⟨ct,u,cw.s,cv⟩

theorem a6E {q0:List (List Int)}{q1:Int}{r:(List Int)}(hS:SH w K [] w K [])(T:b7 (a1B F2) K A a b q0)(aJ:j5 q1)(hm:U9 F q0 q1=some r):
  Calls prog 195 #[V3 A a b,V6 q1] w fun e w'=>∃a_1 n_2 c_3 K',e= .returned (V3 a_1 n_2 c_3)∧SH w K [] w' K' [tail (V3 a_1 n_2 c_3) 3 1]∧b7 F2 K' a_1 n_2 c_3 r:=by
 rw [U9] at hm
 refine ci func195 u ntmps195 (sr (lv (r_n u) (nr (b0 F2 underlying30 G4 hS fun U w7 K8 V ar au=>(av u (ns (n9 ?_)))))))
 obtain⟨aL,aM,aN⟩:=ob hm
 refine j9 (IV w K [] K8 [(0,V3 A a b),(1,V6 q1),(5,V3 U 0 0),(22,.bool aL)] [tail (V3 U 0 0) 3 1]) ?_ ?_
 ·refine j3 (mv u ?_)
  obtain⟨cu,aO,aP⟩:=ob aM
  refine lk b9H (a6I F au.enter0 (T.mono V) aO) ?_
  rintro cv cw ⟨aQ,rfl,ad⟩
  have ae:=(au.c0 ad).t1
  refine lv (y3 u) (mv u (bt aP (fun k af=>?_) (fun k af=>?_)))
  ·refine lu k (lu k (lu k (lv (L1 u k u) (i5 ?_))))
   cases oi af
   exact qd ⟨aQ,u,ae,ad.le⟩
  refine lg k (i4 u) ?_
  obtain⟨cx,aR,aS⟩:=ob af
  refine A7 (wg u u k) u (A6 (vs:=[V6 q1,V6 0,V6 5]) a19 u) (z6 F ae.enter0 aJ R3 (by decide :j5 5) aR) ?_
  rintro cy cz ⟨aT,rfl,aw⟩
  refine⟨_,u,?_⟩
  have aU:=(ae.c0 aw).t1
  refine lg k (y3 u) (lv (m9 u k u) (i5 ?_))
  cases oi aS
  exact qd ⟨aT,u,aU,(ad.le.trans aw.le)⟩
 rintro _ cA ⟨W,rfl,ag,B⟩
 refine l4 (D0 aN u (fun aV ah=>?_) (fun aV ah=>?_))
 ·refine sr (mv u (av u (nq (rr ?_))))
  cases oi ah
  exact ey results195 ⟨U,0,0,W,u,ag,(ar.mono B)⟩
 refine i8 (qs (sr (mv u ?_)))
 obtain⟨C,aW,aX⟩:=ob ah
 refine li underlying262 a4E (T.mono (V.trans B)) aW fun aY aZ cB ba bb=>?_
 obtain⟨q,s,x,rfl,X⟩:=ba
 have bc:D7 _ aY aZ [V3 q s x]:=bb
 refine lv (z2 a4E u ag (bc 0 _ u)) (lv (p7 underlying30 u X) (lv (r_m u) (nq ?_)))
 obtain⟨bd,be,bf⟩:=ob aX
 refine j9 (fun E' w'=>∃D G H I,E'=[(5,V3 D G H)]∧SH w K [] w' I [tail (V3 D G H) 3 1]∧H7 W I∧b7 F2 I D G H bd) ?_ ?_
 ·refine i7 ?_
  obtain⟨cC,bg,bh⟩:=ob be
  refine qF (fun (y:Nat) (ai:(List Int)) E' w'=>∃c d f l,E'=[(0,V3 A a b),(1,V6 q1),(5,V3 c d f),(26,V3 q s x),(27,V6 (C.length:Int)),(28,V6 ((y:Nat):Int))]∧SH w K [] w' l [tail (V3 c d f) 3 1]∧H7 W l∧b7 F2 l c d f ai) bg ⟨U,0,0,W,u,ag,kr,(ar.mono B)⟩ ?_ ?_
  ·rintro y ai _ bi cD hi77 bj ⟨c,d,f,l,rfl,Y,o,aa⟩
   refine sr (lv (o4 u u) (ns (y5 u (b8 (by omega)) (i8 (l4 (n9 (i7 (sr ?_))))))))
   obtain⟨m,bk,bl⟩:=ob bj
   refine li underlying30 G4 (X.mono o) bk fun bm bn cE bo bp=>?_
   obtain⟨rfl,ax⟩:=bo
   have bq:D7 _ bm bn [V6 m]:=bp
   refine lv (z2 G4 u Y (bq 0 _ u)) (av u (nr (mv u (av u (lv (r_t u) (Q9 (mv u ?_)))))))
   obtain⟨ay,br,bs⟩:=ob bl
   refine a6r (t:=(a1B F2)) wn u underlying262 a4E u u (T.mono ((V.trans B).trans o)) br fun az aA aB aj=>(lv (p7 (t:=(a1B F2)) underlying262 u aj) (lv (r_m u) (nq ?_)))
   obtain⟨ak,bu,bv⟩:=ob bs
   refine j9 (IW w K [] l [(0,V3 A a b),(1,V6 q1),(5,V3 c d f),(7,V6 m),(8,V6 ak.1),(9,.bool ak.2),(26,V3 q s x),(27,V6 (C.length:Int)),(28,V6 ((y:Nat):Int))] [tail (V3 c d f) 3 1] (j5 ak.1)) ?_ ?_
   ·refine i7 ?_
    obtain⟨cF,bx,bz⟩:=ob bu
    refine qF (fun (al:Nat) (J:Int×Bool)=>IW w K [] l [(0,V3 A a b),(1,V6 q1),(5,V3 c d f),(7,V6 m),(8,V6 J.1),(9,.bool J.2),(26,V3 q s x),(27,V6 (C.length:Int)),(28,V6 ((y:Nat):Int)),(34,V3 az aA aB),(35,V6 (ay.length:Int)),(36,V6 ((al:Nat):Int))] [tail (V3 c d f) 3 1] (j5 J.1)) bx ⟨l,u,Y,kr,ax⟩ ?_ ?_
    ·rintro al J _ bA cG hi116 bB ⟨aC,rfl,O,ab,aD⟩
     refine sr (lv (o4 u u) (ns (y5 u (b8 (by omega)) (i8 (l4 (n9 (i7 (sr ?_))))))))
     obtain⟨cH,bC,bD⟩:=ob bB
     refine li underlying262 a4E (aj.mono ab) bC fun bE bF cI bG bH=>?_
     obtain⟨bI,bJ,bK,rfl,bL⟩:=bG
     have bM:D7 _ bE bF [V3 bI bJ bK]:=bH
     refine lv (z2 a4E u O (bM 0 _ u)) (av u (nr (mv u (mv u (lv (u6 u u) ?_)))))
     obtain⟨bN,bO,bP⟩:=ob bD
     refine lk b9I (b0F F O.enter0 bL (s6 _) bO) ?_
     rintro cJ cK ⟨am,rfl,aE,bQ⟩
     have aF:=(O.c0 aE).t1
     refine mv u (lv (B6 u u) (lv (B6 u u) (av u (av u (ns ?_)))))
     obtain⟨bR,bS,bT⟩:=ob bP
     refine j9 (IV w K [] am [(0,V3 A a b),(1,V6 q1),(5,V3 c d f),(7,V6 m),(9,.bool bR),(12,V6 bN.1),(26,V3 q s x),(27,V6 (C.length:Int)),(28,V6 ((y:Nat):Int)),(34,V3 az aA aB),(35,V6 (ay.length:Int)),(36,V6 ((al:Nat):Int))] [tail (V3 c d f) 3 1]) ?_ ?_
     ·refine j3 (mv u (mv u (bt bS (fun R an=>?_) (fun R an=>?_))))
      ·refine lg R (i4 u) (lv (q8 u R u) (av u (i5 ?_)))
       cases oi an
       exact qd ⟨am,u,aF,kr⟩
      refine lu R (lv (X8 u R u) (av u (i5 ?_)))
      cases oi an
      exact qd ⟨am,u,aF,kr⟩
     rintro _ cL ⟨bU,rfl,bV,bW⟩
     refine l4 (j3 (mv u (av u (nb (qg (lv (u3 u u (x9 hi116 (b7.max aj))) (mv u (i5 ?_))))))))
     cases oi bT
     exact qd ⟨bU,u,bV,((ab.trans aE.le).trans bW),bQ⟩
    rintro J _ bA bX ⟨aC,rfl,O,ab,aD⟩
    subst bX
    refine sr (lv (o4 u u) (ns (y4 u (c6 (by omega)) (p9 (c9 (c9 (j7 ?_)))))))
    cases oi bz
    exact qd ⟨aC,u,O,ab,aD⟩
   rintro _ cM ⟨ao,rfl,aG,S,cN⟩
   refine qs ?_
   obtain⟨bY,bZ,ca⟩:=ob bv
   refine j9 (IV w K [] ao [(0,V3 A a b),(1,V6 q1),(5,V3 c d f),(7,V6 m),(26,V3 q s x),(27,V6 (C.length:Int)),(28,V6 ((y:Nat):Int)),(64,.bool bY)] [tail (V3 c d f) 3 1]) ?_ ?_
   ·refine j3 (mv u (mv u (bt bZ (fun i ap=>?_) (fun i ap=>?_))))
    ·refine lg i (i4 u) (lg i (i4 u) (lg i (i4 u) (lg i (p7 (t:=(a1B F2)) underlying262 u (b7.mono (((V.trans B).trans o).trans S) T)) (lg i (u6 u u) (lg i (I8 u u) (lg i (i4 u) (lg i (u6 u u) (lg i (U4 u u) (lv (q8 u i u) ?_)))))))))
     refine i5 ?_
     cases oi ap
     exact qd ⟨ao,u,aG,kr⟩
    iterate 9 refine lu i ?_
    refine lv (X8 u i u) (i5 ?_)
    cases oi ap
    exact qd ⟨ao,u,aG,kr⟩
   rintro _ cO ⟨cb,rfl,aH,ac⟩
   refine l4 (D0 ca u (fun cc aq=>?_) (fun cc aq=>?_))
   ·refine j3 (mv u (mv u (lb F2 (V6 m) [V6 m] m underlying30 G4 ⟨u,ax⟩ aH fun cP cQ cR aI cd ce=>?_)))
    obtain⟨cS,cf,cg⟩:=ob aq
    refine lp underlying30 G4 (aa.mono ((S.trans ac).trans aI)) cd cf ce.f1 fun ch cj ck cT cl cm cn cp=>(av u (nb (qg (lv (u3 u u (x9 hi77 (b7.max X))) (mv u (i5 ?_))))))
    cases oi cg
    exact qd ⟨ch,cj,ck,cl,u,cp.s,((((o.trans S).trans ac).trans aI).trans cm),cn⟩
   refine i8 (q7 (qg (lv (u3 u u (x9 hi77 (b7.max X))) (mv u (i5 ?_)))))
   cases oi aq
   exact qd ⟨c,d,f,cb,u,aH,((o.trans S).trans ac),(aa.mono (S.trans ac))⟩
  rintro ai _ bi cq ⟨c,d,f,l,rfl,Y,o,aa⟩
  subst cq
  refine sr (lv (o4 u u) (ns (y4 u (c6 (by omega)) (p9 (c9 (c9 (j7 ?_)))))))
  cases oi bh
  exact qd ⟨c,d,f,l,u,Y,o,aa⟩
 rintro _ cU ⟨D,G,H,I,rfl,cr,cV,cs⟩
 refine qr (mv u (av u (nq (l7 ?_))))
 cases oi bf
 exact ey results195 ⟨D,G,H,I,u,cr,cs⟩

theorem a3W {q0:J8}{q1:B5}{q2:u1}{r:Int}(hS:SH w K Z w K [r5 g1 [V3 A a b,V3 B c d,V3 C f i,V3 D k l] 161])(aQ:b7 B3 K A a b q0.c_.Stops)(aR:b7 G5 K B c d q0.c_.Syns)(bc:b7 E5 K C f i q0.s_.Docs)(bd:b7 B4 K D k l q0.s_.Entries)(du:j5 q1.Kind)(be:q1.Field.length≤maxLen)(bp:b7 B3 K G m n q1.Words)(bq:j5 q1.From)(dv:j5 q1.To)(dw:b7 a1l K H o p q1.Kids)(bf:j5 q2.Id)(dx:b7 F8 K I q s q2.Fields)(dy:b7 H5 K J v x q2.Nums)(hD: ¬dr.D)(hm:L4 F q0 q1 q2=some r):
  Calls prog 147 #[.pointer (some ⟨g1,0,none⟩),.agg #[V6 q1.Kind,sv q1.Field,V3 G m n,V6 q1.From,V6 q1.To,V3 H o p],.agg #[V6 q2.Id,V3 I q s,V3 J v x]] w fun e w'=>∃K',e= .returned (V6 r)∧SH w K Z w' K' [r5 g1 [V3 A a b,V3 B c d,V3 C f i,V3 D k l] 161]∧j5 r:=by
 rw [L4] at hm
 refine ci func147 u ntmps147 (sr (bx u hS fun U dz br=>?_))
 have bs:SH _ _ _ _ _ [r5 U [V6 q1.Kind,sv q1.Field,V3 G m n,V6 q1.From,V6 q1.To,V3 H o p] 58,_]:=br
 refine bx u bs fun ac dA bu=>?_
 have bv:SH _ _ _ _ _ [r5 ac [V6 q2.Id,V3 I q s,V3 J v x] 64,_,_]:=bu
 refine lv (R1 u) (ns ?_)
 have aw:=bv.drew
 refine wh1 (fun w'=>F0 K w'∧A4 g1 [V3 A a b,V3 B c d,V3 C f i,V3 D k l] w'∧A4 U [V6 q1.Kind,sv q1.Field,V3 G m n,V6 q1.From,V6 q1.To,V3 H o p] w') (fun w'=>True) 9 [] mixed ⟨aw.hasK kr,aw.hasObj m2,aw.hasObj m1⟩ (fun _=>trivial) (gt (i4 u) (gt (u7 u) (gt (c7 a7M u) (gh (fun _ h=>B7 (ds:=[V3 A a b,V3 B c d]) E1 u u u h.2.1) (gt (c7 a6y u) (gh (fun _ h=>z8 W1 u u h.2.2) (gn ?_)))))))
 obtain⟨dB,bz,bA⟩:=ob hm
 refine lk b9R (a9N Tryz.strings_Join_none Tryz.strings_Join aw.enter0 bp hD bz) ?_
 rintro dC dD ⟨dE,rfl,y,bB⟩
 have ax:=(aw.c0 y).t3
 refine i5 (qh ⟨ax.hasK y.le,ax.hasObj m2,ax.hasObj m1⟩ (fun _=>trivial) (gn ?_))
 obtain⟨aS,bC,bD⟩:=ob bA
 refine lk b5J (V8 F ax.enter0 (aQ.mono y.le) (aR.mono y.le) bB bC) ?_
 rintro dF dG ⟨ah,ai,aj,bE,rfl,V,ay⟩
 have az:=(ax.c0 V).t4
 refine i5 (qh ⟨az.hasK (y.le.trans V.le),az.hasObj m3,az.hasObj m2⟩ (fun _=>trivial) (gt (r4 u) (gd' (qs (sr (mv u (lv (p7 underlying101 u ay) (lv (F7 u u) (nq (D0 bD u (fun bF aT=>?_) (fun bF aT=>?_)))))))))))
 ·refine sr (lv (R1 u) (nq (rr ?_)))
  cases oi aT
  exact ey results147 ⟨bE,u,az.s,R3⟩
 refine i8 (qr (a4F (a1B F2) wn u underlying262 a4E az fun bG dH aU R bH bI=>(av u (nr (lv (R1 u) (Q9 (mv u (lv (p7 underlying101 u (ay.mono R)) (lv (r_m u) ?_)))))))))
 refine nq ?_
 obtain⟨aV,bJ,bK⟩:=ob aT
 refine j9 (fun E' w'=>∃aD aE aF aG,E'=[(0,pt g1),(4,pt U),(8,V3 aD aE aF),(9,V6 aV.2)]∧SH w K Z w' aG [r5 g1 [V3 A a b,V3 B c d,V3 C f i,V3 D k l] 161,r5 U [V6 q1.Kind,sv q1.Field,V3 G m n,V6 q1.From,V6 q1.To,V3 H o p] 58,tail (V3 aD aE aF) 30 1]∧H7 aU aG∧b7 (a1B F2) aG aD aE aF aV.1∧j5 aV.2) ?_ ?_
 ·refine i7 ?_
  obtain⟨dI,bL,bM⟩:=ob bJ
  have bN:=bI.f2.f3.f4.sb (sk (sk (sk (sk (sd sz)))))
  refine qF (fun (ab:Nat) (ad:(List (List Int))×Int) E' w'=>∃W X Y ak,E'=[(0,pt g1),(4,pt U),(5,pt ac),(7,V3 ah ai aj),(8,V3 W X Y),(9,V6 ad.2),(28,V3 ah ai aj),(29,V6 (aS.length:Int)),(30,V6 ((ab:Nat):Int))]∧SH w K Z w' ak [r5 g1 [V3 A a b,V3 B c d,V3 C f i,V3 D k l] 161,r5 U [V6 q1.Kind,sv q1.Field,V3 G m n,V6 q1.From,V6 q1.To,V3 H o p] 58,r5 ac [V6 q2.Id,V3 I q s,V3 J v x] 64,tail (V3 W X Y) 30 1]∧H7 aU ak∧b7 (a1B F2) ak W X Y ad.1∧j5 ad.2) bL ⟨bG,0,0,aU,u,bN,kr,bH,R3⟩ ?_ ?_
  ·rintro ab ad _ bO dJ hi110 bP ⟨W,X,Y,ak,rfl,aH,O,aW,bg⟩
   refine sr (lv (o4 u u) (ns (y5 u (b8 (by omega)) (i8 (l4 (n9 (i7 (sr (mv u ?_)))))))))
   obtain⟨S,bQ,bR⟩:=ob bP
   refine li underlying101 E3 (ay.mono (R.trans O)) bQ fun bS bT dK bU bV=>?_
   obtain⟨rfl,bh,dL⟩:=bU
   have bW:D7 _ bS bT [sv S.Text,V6 S.At]:=bV
   refine lv (C9 E3 u aH bW u) (al E3 aH fun aA dM bX=>?_)
   have bY:SH _ _ _ _ _ [r5 aA [sv [],V6 0] 104,_,_,_,_]:=bX
   refine av u (lw [sv S.Text,V6 S.At] E3 bY fun dN bZ=>(nr (b0 F2 underlying30 G4 bZ fun ca dO dP T cb aI=>(av u (Q9 (mv u (fl a2O u D8 m3 aI u (fl a0h u D8 m1 aI u (fl T9 u G4 m4 aI u ?_)))))))))
   obtain⟨cc,cd,ce⟩:=ob bR
   have bi:=aI.f2
   refine lk b5G (X1 F bi.e1 (b7.mono ((((y.le.trans V.le).trans R).trans O).trans T) aQ) (b7.mono ((((y.le.trans V.le).trans R).trans O).trans T) aR) (b7.mono ((((y.le.trans V.le).trans R).trans O).trans T) bc) (b7.mono ((((y.le.trans V.le).trans R).trans O).trans T) bd) be bh bf cd) ?_
   rintro dQ dR ⟨cf,cg,ch,aX,rfl,aa,aJ⟩
   have cj:=(bi.c1 aa).t6
   refine lv (p7 underlying30 u aJ) (lv (r_m u) (nq ?_))
   obtain⟨bj,ck,cl⟩:=ob ce
   refine j9 (fun E' w'=>∃am an ao aK,E'=[(0,pt g1),(4,pt U),(5,pt ac),(7,V3 ah ai aj),(8,V3 W X Y),(9,V6 ad.2),(11,pt aA),(12,V3 am an ao),(28,V3 ah ai aj),(29,V6 (aS.length:Int)),(30,V6 ((ab:Nat):Int))]∧SH w K Z w' aK [r5 g1 [V3 A a b,V3 B c d,V3 C f i,V3 D k l] 161,r5 U [V6 q1.Kind,sv q1.Field,V3 G m n,V6 q1.From,V6 q1.To,V3 H o p] 58,r5 ac [V6 q2.Id,V3 I q s,V3 J v x] 64,r5 aA [sv S.Text,V6 S.At] 104,tail (V3 W X Y) 30 1,tail (V3 am an ao) 3 1]∧H7 aX aK∧b7 F2 aK am an ao bj) ?_ ?_
   ·refine i7 ?_
    obtain⟨dS,cm,cn⟩:=ob ck
    refine qF (fun (bk:Nat) (aY:(List Int)) E' w'=>∃ae af ag ap,E'=[(0,pt g1),(4,pt U),(5,pt ac),(7,V3 ah ai aj),(8,V3 W X Y),(9,V6 ad.2),(10,V6 ((ab:Nat):Int)),(11,pt aA),(12,V3 ae af ag),(28,V3 ah ai aj),(29,V6 (aS.length:Int)),(30,V6 ((ab:Nat):Int)),(43,V3 cf cg ch),(44,V6 (cc.length:Int)),(45,V6 ((bk:Nat):Int))]∧SH w K Z w' ap [r5 g1 [V3 A a b,V3 B c d,V3 C f i,V3 D k l] 161,r5 U [V6 q1.Kind,sv q1.Field,V3 G m n,V6 q1.From,V6 q1.To,V3 H o p] 58,r5 ac [V6 q2.Id,V3 I q s,V3 J v x] 64,r5 aA [sv S.Text,V6 S.At] 104,tail (V3 W X Y) 30 1,tail (V3 ae af ag) 3 1]∧H7 aX ap∧b7 F2 ap ae af ag aY) cm ⟨ca,0,0,aX,u,cj.f1.f5.f3.f5.f5.f5,kr,(cb.mono aa.le)⟩ ?_ ?_
    ·rintro bk aY _ cp dT hi180 cq ⟨ae,af,ag,ap,rfl,aL,aq,aM⟩
     refine sr (lv (o4 u u) (ns (y5 u (b8 (by omega)) (i8 (l4 (n9 (i7 (sr ?_))))))))
     obtain⟨aN,cr,cs⟩:=ob cq
     refine li underlying30 G4 (aJ.mono aq) cr fun ct cu dU cv cw=>?_
     obtain⟨rfl,dV⟩:=cv
     have cx:D7 _ ct cu [V6 aN]:=cw
     refine lv (z2 G4 u aL (cx 0 _ u)) (av u (ns (D3 mixed (by kernel_rfl) aL (km u (kv (c7 a0i u) (kh (u9 G4 u m3 u) (km u ?_)))))))
     obtain⟨aB,cy,cz⟩:=ob cs
     refine ki underlying101 E3 (b7.mono ((((R.trans O).trans T).trans aa.le).trans aq) ay) cy fun cA cB dW cC cD=>?_
     obtain⟨rfl,dX,dY⟩:=cC
     have cE:D7 _ cA cB [sv aB.Text,V6 aB.At]:=cD
     refine kv (c7 a0i u) (kh (z7 G4 u (cE 1 _ u)) (kv (I8 u u) (km u (kv (I8 u u) (kv (I8 u u) (kv (r4 u) (A3 ?_)))))))
     rintro dZ ⟨cF,bl,aO⟩
     refine qr (mv u (lv (a2y u u) (nq (D0 cz u (fun cG aZ=>?_) (fun cG aZ=>?_)))))
     ·refine j3 (mv u (mv u (lb F2 (V6 (y8 (aN-(y8 ((y8 (S.At-aB.At))-((ab:Nat):Int)))))) [V6 (y8 (aN-(y8 ((y8 (S.At-aB.At))-((ab:Nat):Int)))))] (y8 (aN-(y8 ((y8 (S.At-aB.At))-((ab:Nat):Int))))) underlying30 G4 ⟨u,(s6 _)⟩ bl fun ea eb ec bm cH cI=>?_)))
      obtain⟨ed,cJ,cK⟩:=ob aZ
      refine lp underlying30 G4 (aM.mono (aO.trans bm)) cH cJ cI.f6 fun cL cM cN ee cO cP cQ cR=>(av u (nb (qg (lv (u3 u u (x9 hi180 (b7.max aJ))) (mv u (i5 ?_))))))
      cases oi cK
      exact qd ⟨cL,cM,cN,cO,u,cR.f6.f6.f6.f6.f6.s,(((aq.trans aO).trans bm).trans cP),cQ⟩
     refine i8 (q7 (qg (lv (u3 u u (x9 hi180 (b7.max aJ))) (mv u (i5 ?_)))))
     cases oi aZ
     exact qd ⟨ae,af,ag,cF,u,bl,(aq.trans aO),(aM.mono aO)⟩
    rintro aY _ cp cS ⟨ae,af,ag,ap,rfl,aL,aq,aM⟩
    subst cS
    refine sr (lv (o4 u u) (ns (y4 u (c6 (by omega)) (p9 (c9 (c9 (j7 ?_)))))))
    cases oi cn
    exact qd ⟨ae,af,ag,ap,u,aL,aq,aM⟩
   rintro _ ef ⟨am,an,ao,aK,rfl,cT,ar,cU⟩
   refine qr (mv u (mv u (lb (a1B F2) (V3 am an ao) [V3 am an ao] bj underlying262 a4E ⟨_,_,_,u,cU⟩ cT fun eg eh ei au cV cW=>?_)))
   obtain⟨ej,cX,cY⟩:=ob cl
   refine lp underlying262 a4E (b7.mono (((T.trans aa.le).trans ar).trans au) aW) cV cX cW.f5 fun cZ da db ek el aC dc aP=>(av u (nq (j3 (mv u (mv u (fl a2O u D8 m3 aP u (fl a0h u D8 m5 aP u (fl T9 u G4 m4 aP u ?_))))))))
   obtain⟨em,dd,de⟩:=ob cY
   have bn:=aP.f2
   refine lk b5F (X2 F bn.e1 (b7.mono ((((((((y.le.trans V.le).trans R).trans O).trans T).trans aa.le).trans ar).trans au).trans aC) aQ) (b7.mono ((((((((y.le.trans V.le).trans R).trans O).trans T).trans aa.le).trans ar).trans au).trans aC) aR) (b7.mono ((((((((y.le.trans V.le).trans R).trans O).trans T).trans aa.le).trans ar).trans au).trans aC) bc) (b7.mono ((((((((y.le.trans V.le).trans R).trans O).trans T).trans aa.le).trans ar).trans au).trans aC) bd) be bh bf dd) ?_
   rintro en eo ⟨df,rfl,ba,ep⟩
   have dg:=(bn.c1 ba).t7
   refine lv (u6 u u) (av u (nb (qg (lv (u3 u u (x9 hi110 (b7.max (ay.mono R)))) (mv u (i5 ?_))))))
   cases oi de
   exact qd ⟨cZ,da,db,df,u,dg.f1.f4.f4.f3.s,((((((O.trans T).trans aa.le).trans ar).trans au).trans aC).trans ba.le),(dc.mono ba.le),(s6 _)⟩
  rintro ad _ bO dh ⟨W,X,Y,ak,rfl,aH,O,aW,bg⟩
  subst dh
  refine sr (lv (o4 u u) (ns (y4 u (c6 (by omega)) (p9 (c9 (c9 (j7 ?_)))))))
  cases oi bM
  exact qd ⟨W,X,Y,ak,u,aH.s,O,aW,bg⟩
 rintro _ eq ⟨aD,aE,aF,aG,rfl,bb,es,di,et⟩
 refine qr (mv u (fl a6z u G4 m1 bb u ?_))
 obtain⟨eu,dj,dk⟩:=ob bK
 refine lk b9F (a6E F bb.enter0 di bq dj) ?_
 rintro ev ew ⟨ex,eA,eB,dl,rfl,dm,dn⟩
 have dp:=(bb.c0 dm).t4
 refine lv (p7 underlying30 u dn) (lv (b3W u u) (mv u (lv (a1k u u) ?_)))
 obtain⟨eC,dq,dt⟩:=ob dk
 have bo:=oi dq
 refine lv (b3T u (congrArg (Value.int .i64) bo)) (nq (l7 ?_))
 cases oi dt
 exact ey results147 ⟨dl,u,dp.s,(b5A bo (s6 _))⟩

theorem a4m (F:Nat): ∀{w:World} {K:C7} {g1:Nat} {a:Option Addr} {b c:Nat} {d:Option Addr} {f i:Nat} {k:Option Addr} {l m:Nat} {o:Option Addr} {q s:Nat} {O:Option Addr} {R S:Nat} {G:Option Addr} {H I:Nat} {x:Option Addr} {y A:Nat} {B:Option Addr} {C D:Nat} {q0:J8} {q1:B5} {q2:u1} {r:Int} (hS:SH w K (List.flatMap B8.gs [r5 g1 [V3 a b c,V3 d f i,V3 k l m,V3 o q s] 161]) w K [r5 g1 [V3 a b c,V3 d f i,V3 k l m,V3 o q s] 161]) (W:b7 B3 K a b c q0.c_.Stops) (X:b7 G5 K d f i q0.c_.Syns) (aa:b7 E5 K k l m q0.s_.Docs) (ab:b7 B4 K o q s q0.s_.Entries) (bM:j5 q1.Kind) (af:q1.Field.length≤maxLen) (aC:b7 B3 K O R S q1.Words) (aK:j5 q1.From) (aX:j5 q1.To) (aj:b7 a1l K G H I q1.Kids) (ac:j5 q2.Id) (ak:b7 F8 K x y A q2.Fields) (am:b7 H5 K B C D q2.Nums) (hD: ¬dr.D) (hm:A0 F q0 q1 q2=some r),
  Calls prog 100 #[.pointer (some ⟨g1,0,none⟩),.agg #[V6 q1.Kind,sv q1.Field,V3 O R S,V6 q1.From,V6 q1.To,V3 G H I],.agg #[V6 q2.Id,V3 x y A,V3 B C D]] w fun e w'=>∃K',e= .returned (V6 r)∧SH w K (List.flatMap B8.gs [r5 g1 [V3 a b c,V3 d f i,V3 k l m,V3 o q s] 161]) w' K' [r5 g1 [V3 a b c,V3 d f i,V3 k l m,V3 o q s] 161]∧j5 r:=by
 induction F with
 | zero=>intros;rename_i hm;rw [A0] at hm;cases hm
 | succ F ih=>
  intro w K g1 a b c d f i k l m o q s O R S G H I x y A B C D q0 q1 q2 r hS W X aa ab bM af aC aK aX aj ac ak am hD hm
  rw [A0] at hm
  refine ci func100 u ntmps100 (sr (bx u hS fun J hn cU=>?_))
  have cV:SH _ _ _ _ _ [r5 J [V6 q1.Kind,sv q1.Field,V3 O R S,V6 q1.From,V6 q1.To,V3 G H I] 58,_]:=cU
  refine bx u cV fun T ho cW=>?_
  have U:SH _ _ _ _ _ [r5 T [V6 q2.Id,V3 x y A,V3 B C D] 64,_,_]:=cW
  refine lv (R1 u) (Q9 (fl a6x u G4 m1 U u (nq (i7 (sr (lv (F7 u u) (av u (nq (a0n u (fun aY=>?_) (fun aY=>?_))))))))))
  ·have aZ:=a3w aY hm
   refine sr (lv (r4 (v:=V6 100) u) (nq (l7 (j4 (g6 ?_)))))
   cases oi aZ
   exact ey results100 ⟨K,u,U.s,(by decide :j5 100)⟩
  have aZ:=a3v aY hm
  refine sr (lv (F7 u u) (av u (nq (D0 aZ u (fun cX ba=>?_) (fun cX ba=>?_)))))
  ·refine n9 ?_
   have aB:=U.drew
   refine j_0 (fun w'=>F0 K w'∧A4 J [V6 q1.Kind,sv q1.Field,V3 O R S,V6 q1.From,V6 q1.To,V3 G H I] w'∧A4 g1 [V3 a b c,V3 d f i,V3 k l m,V3 o q s] w'∧A4 T [V6 q2.Id,V3 x y A,V3 B C D] w') 16 [] mixed ⟨aB.hasK kr,aB.hasObj m1,aB.hasObj m2,aB.hasObj m0⟩ (jv 0 u (i4 u) (jv 1 u (c7 a2O u) (jh 2 u (fun _ h=>z8 D8 u u h.2.1) (jv 3 u (i4 u) (jv 4 u (u7 u) (jv 5 u (c7 a7M u) (jh 6 u (fun _ h=>B7 (ds:=[V3 a b c,V3 d f i]) E1 u u u h.2.2.1) (jv 7 u (c7 a6y u) (jh 8 u (fun _ h=>z8 W1 u u h.2.1) ?_)))))))))
   obtain⟨cY,cZ,da⟩:=ob ba
   refine ji 9 u underlying22 D8 aC cZ fun db dc hp dd de=>?_
   obtain⟨rfl,df⟩:=dd
   have dg:D7 _ db dc [sv cY]:=de
   refine jh 10 u (fun _ h=>a1h D8 u (dg 0 _ u) h.1) (jv 12 u (c7 T9 u) (jh 13 u (fun _ h=>z8 G4 u u h.2.2.2) (j1 11 u ?_)))
   obtain⟨hq,dh,di⟩:=ob da
   refine lk b6Y (a1a F aB.enter0 W X df dh) ?_
   rintro hr ht ⟨hu,rfl,aq,dj⟩
   have aD:=(aB.c0 aq).t3
   refine j_o ⟨aD.hasK aq.le,aD.hasObj m1,aD.hasObj m2,aD.hasObj m0⟩ (j1 14 u ?_)
   obtain⟨hv,dk,dl⟩:=ob di
   have bN:=aD.f2
   refine lk b5F (X2 F bN.e1 (W.mono aq.le) (X.mono aq.le) (aa.mono aq.le) (ab.mono aq.le) af dj ac dk) ?_
   rintro hw hx ⟨dm,rfl,bO,dn⟩
   have aE:=(bN.c1 bO).t3
   refine j_o ⟨aE.hasK (aq.le.trans bO.le),aE.hasObj m2,aE.hasObj m0,aE.hasObj m1⟩ (jv 15 u (r4 u) (jd (l4 (l7 (j4 (g6 ?_))))))
   cases oi dl
   exact ey results100 ⟨dm,u,aE.s,dn⟩
  refine sr (lv (F7 u u) (av u (nq (D0 ba u (fun dp bb=>?_) (fun dp bb=>?_)))))
  ·refine sr (mv u (lv (s7 (ds:=[V6 q1.Kind,sv q1.Field,V3 O R S,V6 q1.From,V6 q1.To,V3 G H I]) a2C u m1 U u u) (lv (s7 (ds:=[V6 q2.Id,V3 x y A,V3 B C D]) C8 u m0 U u u) ?_)))
   obtain⟨hy,dq,dt⟩:=ob bb
   have bP:=U.f2
   refine lk b9v (a3W F bP.e1 W X aa ab bM af aC aK aX aj ac ak am hD dq) ?_
   rintro hz hA ⟨du,rfl,dv,dw⟩
   have dx:=(bP.c1 dv).t3
   refine av u (nq (l7 (j4 (g6 ?_))))
   cases oi dt
   exact ey results100 ⟨du,u,dx.s,dw⟩
  refine sr (lv (F7 u u) (av u (nq (D0 bb u (fun dy bc=>?_) (fun dy bc=>?_)))))
  ·refine sr (lv (R1 u) (ns (n9 ?_)))
   have bd:=U.drew
   refine j_0 (fun w'=>F0 K w'∧A4 J [V6 q1.Kind,sv q1.Field,V3 O R S,V6 q1.From,V6 q1.To,V3 G H I] w') 8 [] mixed ⟨bd.hasK kr,bd.hasObj m1⟩ (jv 0 u (i4 u) (jv 1 u (u7 u) (jv 2 u (c7 a2I u) (jv 3 u (c7 a2O u) (jh 4 u (fun _ h=>z8 D8 u u h.2) (jv 7 u (r_m u) (j1 5 u ?_)))))))
   obtain⟨dz,dA,dB⟩:=ob bc
   have bQ:=bd.f2
   refine lk b7X (T4 F bQ.e1 W X aa ab af dA) ?_
   rintro hB hC ⟨dC,dD,dE,be,rfl,ar,aL⟩
   have bf:=(bQ.c1 ar).t4
   refine j_o ⟨bf.hasK ar.le,bf.hasObj m3⟩ (jv 6 u (p7 underlying22 u aL) (jd (l4 ?_)))
   obtain⟨bR,dF,dG⟩:=ob dB
   refine j9 (IW w K (List.flatMap B8.gs [r5 g1 [V3 a b c,V3 d f i,V3 k l m,V3 o q s] 161]) be [(0,pt g1),(7,V6 bR)] [r5 g1 [V3 a b c,V3 d f i,V3 k l m,V3 o q s] 161] (j5 bR)) ?_ ?_
   ·refine i7 ?_
    obtain⟨hE,dH,dI⟩:=ob dF
    have dJ:=bf.f2.f3.f3.sb (sk (sk (sk (sd sz))))
    refine qF (fun (bS:Nat) (aM:Int)=>IW w K (List.flatMap B8.gs [r5 g1 [V3 a b c,V3 d f i,V3 k l m,V3 o q s] 161]) be [(0,pt g1),(4,pt J),(5,pt T),(7,V6 aM),(51,V3 dC dD dE),(52,V6 (dz.length:Int)),(53,V6 ((bS:Nat):Int))] [r5 g1 [V3 a b c,V3 d f i,V3 k l m,V3 o q s] 161,r5 J [V6 q1.Kind,sv q1.Field,V3 O R S,V6 q1.From,V6 q1.To,V3 G H I] 58,r5 T [V6 q2.Id,V3 x y A,V3 B C D] 64] (j5 aM)) dH ⟨be,u,dJ,kr,R3⟩ ?_ ?_
    ·rintro bS aM _ dK hF hi137 dL ⟨bT,rfl,au,ad,aN⟩
     refine sr (lv (o4 u u) (ns (y5 u (b8 (by omega)) (i8 (l4 (n9 (i7 (sr ?_))))))))
     obtain⟨dM,dN,dO⟩:=ob dL
     refine li underlying22 D8 (aL.mono ad) dN fun dP dQ hG dR dS=>?_
     obtain⟨rfl,bU⟩:=dR
     have dT:D7 _ dP dQ [sv dM]:=dS
     refine lv (z2 D8 u au (dT 0 _ u)) (av u (nr (mv u (fl a6y u W1 m1 au u ?_))))
     obtain⟨dU,dV,dW⟩:=ob dO
     refine li underlying22 D8 (aC.mono (ar.le.trans ad)) dV fun dX dY hH dZ ea=>?_
     obtain⟨rfl,eb⟩:=dZ
     have ec:D7 _ dX dY [sv dU]:=ea
     refine lv (z2 D8 u au (ec 0 _ u)) ?_
     obtain⟨hI,ed,ee⟩:=ob dW
     refine lk b9w (a7r F au.enter0 bU eb ed) ?_
     rintro hJ hK ⟨hL,rfl,aw,ef⟩
     have bg:=(au.c0 aw).t3
     refine av u (nr (mv u (fl a6z u G4 m1 bg u ?_)))
     obtain⟨hM,eg,eh⟩:=ob ee
     refine lk a19 (z6 F bg.enter0 ef R3 aK eg) ?_
     rintro hN hO ⟨ei,rfl,ax⟩
     have aF:=(bg.c0 ax).t3
     refine nq (D0 eh u (fun ej bh=>?_) (fun ej bh=>?_))
     ·refine j3 (mv u (mv u (fl a2O u D8 m1 aF u (mv u (fl T9 u G4 m2 aF u ?_)))))
      obtain⟨hP,ek,el⟩:=ob bh
      refine lk b5F (X2 F aF.e1 (b7.mono (((ar.le.trans ad).trans aw.le).trans ax.le) W) (b7.mono (((ar.le.trans ad).trans aw.le).trans ax.le) X) (b7.mono (((ar.le.trans ad).trans aw.le).trans ax.le) aa) (b7.mono (((ar.le.trans ad).trans aw.le).trans ax.le) ab) af bU ac ek) ?_
      rintro hQ hR ⟨em,rfl,bV,hT⟩
      have en:=(aF.c1 bV).t3
      refine mv u (lv (I8 u u) (lv (a1k u u) ?_))
      obtain⟨hU,bW,eo⟩:=ob el
      refine lv (a4y u u bW) (lv (b3V u u) (av u (nb (qg (lv (u3 u u (x9 hi137 (b7.max aL))) (mv u (i5 ?_)))))))
      cases oi eo
      exact qd ⟨em,u,en,(((ad.trans aw.le).trans ax.le).trans bV.le),(b3Q aN (a4Q bW))⟩
     refine i8 (q7 (qg (lv (u3 u u (x9 hi137 (b7.max aL))) (mv u (i5 ?_)))))
     cases oi bh
     exact qd ⟨ei,u,aF,((ad.trans aw.le).trans ax.le),aN⟩
    rintro aM _ dK ep ⟨bT,rfl,au,ad,aN⟩
    subst ep
    refine sr (lv (o4 u u) (ns (y4 u (c6 (by omega)) (p9 (c9 (c9 (j7 ?_)))))))
    cases oi dI
    exact qd ⟨bT,u,au.s,ad,aN⟩
   rintro _ hV ⟨eq,rfl,es,hW,et⟩
   refine qr (mv u (av u (nq (l7 (j4 (g6 ?_))))))
   cases oi dG
   exact ey results100 ⟨eq,u,es,et⟩
  refine sr (lv (F7 u u) (av u (nq (D0 bc u (fun eu bi=>?_) (fun eu bi=>?_)))))
  ·refine n9 (n9 ?_)
   have bj:=U.drew
   refine j_0 (fun w'=>F0 K w'∧A4 J [V6 q1.Kind,sv q1.Field,V3 O R S,V6 q1.From,V6 q1.To,V3 G H I] w') 8 [] mixed ⟨bj.hasK kr,bj.hasObj m1⟩ (jv 0 u (i4 u) (jv 1 u (u7 u) (jv 2 u (c7 a2I u) (jv 3 u (c7 a2O u) (jh 4 u (fun _ h=>z8 D8 u u h.2) (jv 7 u (r_m u) (j1 5 u ?_)))))))
   obtain⟨bX,ev,ew⟩:=ob bi
   have bY:=bj.f2
   refine lk b7X (T4 F bY.e1 W X aa ab af ev) ?_
   rintro hX hY ⟨bZ,ca,cb,bk,rfl,ay,bl⟩
   have bm:=(bY.c1 ay).t4
   refine j_o ⟨bm.hasK ay.le,bm.hasObj m3⟩ (jv 6 u (p7 underlying22 u bl) (jd (l4 ?_)))
   obtain⟨ex,eA,aO⟩:=ob ew
   refine j9 (IE ex w K (List.flatMap B8.gs [r5 g1 [V3 a b c,V3 d f i,V3 k l m,V3 o q s] 161]) bk [(0,pt g1)] [r5 g1 [V3 a b c,V3 d f i,V3 k l m,V3 o q s] 161]) ?_ ?_
   ·refine i7 ?_
    obtain⟨hZ,eB,cc⟩:=ob eA
    have eC:=bm.f2.f3.f3.sb (sk (sk (sk (sd sz))))
    refine qf (fun (bn:Nat) (cd:Unit)=>IV w K (List.flatMap B8.gs [r5 g1 [V3 a b c,V3 d f i,V3 k l m,V3 o q s] 161]) bk [(0,pt g1),(4,pt J),(5,pt T),(89,V3 bZ ca cb),(90,V6 (bX.length:Int)),(91,V6 ((bn:Nat):Int))] [r5 g1 [V3 a b c,V3 d f i,V3 k l m,V3 o q s] 161,r5 J [V6 q1.Kind,sv q1.Field,V3 O R S,V6 q1.From,V6 q1.To,V3 G H I] 58,r5 T [V6 q2.Id,V3 x y A,V3 B C D] 64]) eB ⟨bk,u,eC,kr⟩ ?_ ?_
    ·rintro bn cd _ eD ia hi232 eE eF ⟨bo,rfl,az,ag⟩
     refine sr (lv (o4 u u) (ns (y5 u (b8 (by omega)) (i8 (l4 (n9 (i7 (sr ?_))))))))
     obtain⟨ce,eG,eH⟩:=ob eE
     refine li underlying22 D8 (bl.mono ag) eG fun eI eJ ib eK eL=>?_
     obtain⟨rfl,cf⟩:=eK
     have eM:D7 _ eI eJ [sv ce]:=eL
     refine lv (z2 D8 u az (eM 0 _ u)) (av u (ns ?_))
     obtain⟨eN,eO,eP⟩:=ob eH
     refine j9 (IV w K (List.flatMap B8.gs [r5 g1 [V3 a b c,V3 d f i,V3 k l m,V3 o q s] 161]) bo [(0,pt g1),(4,pt J),(5,pt T),(89,V3 bZ ca cb),(90,V6 (bX.length:Int)),(91,V6 ((bn:Nat):Int)),(111,.bool eN)] [r5 g1 [V3 a b c,V3 d f i,V3 k l m,V3 o q s] 161,r5 J [V6 q1.Kind,sv q1.Field,V3 O R S,V6 q1.From,V6 q1.To,V3 G H I] 58,r5 T [V6 q2.Id,V3 x y A,V3 B C D] 64]) ?_ ?_
     ·refine j3 (fl a6y u W1 m1 az u ?_)
      obtain⟨eQ,eR,eS⟩:=ob eO
      refine li underlying22 D8 (aC.mono (ay.le.trans ag)) eR fun eT eU ic eV eW=>?_
      obtain⟨rfl,eX⟩:=eV
      have eY:D7 _ eT eU [sv eQ]:=eW
      refine lv (z2 D8 u az (eY 0 _ u)) (mv u ?_)
      obtain⟨ie,eZ,fb⟩:=ob eS
      refine lk b9x (a7p F az.enter0 eX cf eZ) ?_
      rintro ig ii ⟨fc,rfl,aA⟩
      have aG:=(az.c0 aA).t3
      refine mv u (bt fb (fun V bp=>?_) (fun V bp=>?_))
      ·refine lg V (i4 u) (lg V (c7 a2O u) (lg V (x8 D8 u m1 aG u) (lg V (i4 u) (lg V (c7 T9 u) (lg V (x8 G4 u m2 aG u) ?_)))))
       obtain⟨ij,fd,fe⟩:=ob bp
       refine A7 (wg u u V) u (A6 (vs:=[pt g1,sv q1.Field,sv ce,V6 q2.Id]) b5G u) (X1 F aG.e1 (W.mono ((ay.le.trans ag).trans aA.le)) (X.mono ((ay.le.trans ag).trans aA.le)) (aa.mono ((ay.le.trans ag).trans aA.le)) (ab.mono ((ay.le.trans ag).trans aA.le)) af cf ac fd) ?_
       rintro ik il ⟨im,io,ip,fg,rfl,cg,fh⟩
       refine⟨_,u,?_⟩
       have fi:=(aG.c1 cg).t3
       refine lg V (p7 underlying30 u fh) (lg V (E9 u u) (lv (q8 u V u) (i5 ?_)))
       cases oi fe
       exact qd ⟨fg,u,fi,(aA.le.trans cg.le)⟩
      iterate 9 refine lu V ?_
      refine lv (X8 u V u) (i5 ?_)
      cases oi bp
      exact qd ⟨fc,u,aG,aA.le⟩
     rintro _ iq ⟨ch,rfl,cj,fj⟩
     refine l4 (D0 eP u (fun fk bq=>?_) (fun fk bq=>?_))
     ·refine sr (lv (r4 (v:=V6 100) u) (nq (l7 (j4 (g6 (g6 ?_))))))
      cases oi bq
      cases eF _ u
      refine j4 (g6 ?_)
      cases oi cc
      refine g6 (j4 (g6 ?_))
      cases oi aO
      exact ey results100 ⟨ch,u,cj.s,(by decide :j5 100)⟩
     refine i8 (q7 (qg (lv (u3 u u (x9 hi232 (b7.max bl))) (mv u (i5 ?_)))))
     cases oi bq
     exact qd ⟨_,u,ch,u,cj,(ag.trans fj)⟩
    rintro cd _ eD fm ⟨bo,rfl,az,ag⟩
    subst fm
    refine sr (lv (o4 u u) (ns (y4 u (c6 (by omega)) (p9 (c9 (c9 (j7 ?_)))))))
    cases oi cc
    exact qd ⟨_,bo,u,u,az.s,ag⟩
   rintro _ ir ⟨it,fn,rfl,rfl,fo,iu⟩
   have aO:=D9 aO
   refine qr (lv (R1 u) (nq (l7 (j4 (g6 ?_)))))
   cases oi aO
   exact ey results100 ⟨fn,u,fo,R3⟩
  refine sr (lv (F7 u u) (av u (nq (D0 bi u (fun fp br=>?_) (fun fp br=>?_)))))
  ·refine n9 (n9 (D3 mixed (by kernel_rfl) U (kh (a2i (ds:=[V6 q2.Id,V3 x y A,V3 B C D]) C8 u m0 u u) (kv (c7 a2O u) (kh (u9 D8 u m1 u) ?_)))))
   obtain⟨iv,ck,fq⟩:=ob br
   refine kd b9y (fun _ _ fr cl=>(a4j F) fr.enter0 ac (ak.mono cl) (am.mono cl) af ck) ?_
   obtain⟨_,_,_,⟨_,_,_,fs⟩,_⟩:=(a4j F) U.enter0 ac ak am af ck []
   refine kv (c7 a6z u) (kh (u9 G4 u m1 u) (kv (c7 b0r u) (kh (u9 G4 u m1 u) ?_)))
   obtain⟨iw,ft,fu⟩:=ob fq
   refine kc a19 (fun _ _ fv ix=>(z6 F) fv.enter0 fs aK aX ft) (A3 ?_)
   rintro iy ⟨cm,cn,iz⟩
   refine l4 (D0 fu u (fun fw bs=>?_) (fun fw bs=>?_))
   ·refine sr (lv (r4 (v:=V6 100) u) (nq (rr (j4 (g6 ?_)))))
    cases oi bs
    exact ey results100 ⟨cm,u,cn.s,(by decide :j5 100)⟩
   refine i8 (qr (lv (R1 u) (nq (l7 (j4 (g6 ?_))))))
   cases oi bs
   exact ey results100 ⟨cm,u,cn.s,R3⟩
  refine sr (lv (F7 u u) (av u (nq (D0 br u (fun fx bu=>?_) (fun fx bu=>?_)))))
  ·refine n9 ?_
   have aP:=U.drew
   refine wh1 (fun w'=>F0 K w'∧A4 J [V6 q1.Kind,sv q1.Field,V3 O R S,V6 q1.From,V6 q1.To,V3 G H I] w'∧A4 T [V6 q2.Id,V3 x y A,V3 B C D] w') (fun w'=>True) 11 [] mixed ⟨aP.hasK kr,aP.hasObj m1,aP.hasObj m0⟩ (fun _=>trivial) (gt (c7 a6z u) (gh (fun _ h=>z8 G4 u u h.2.1) (gt (i4 u) (gt (c7 a6A u) (gh (fun _ h=>z8 b5i u u h.2.1) ?_)))))
   obtain⟨an,fy,fz⟩:=ob bu
   refine gi underlying56 a2C aj fy fun fA fB iA fC fD=>?_
   obtain⟨cp,cq,cr,ct,cu,cv,rfl,fE,fF,fG,fH,fI,fJ⟩:=a0H fC
   have fK:D7 _ fA fB [V6 an.Kind,sv an.Field,V3 cp cq cr,V6 an.From,V6 an.To,V3 ct cu cv]:=fD
   refine gh (fun _ h=>a1T (cs:=[V6 an.Kind,sv an.Field,V3 cp cq cr,V6 an.From,V6 an.To,V3 ct cu cv]) a2C u fK u h.1) (gh (fun _ h=>B7 (ds:=[V6 q2.Id,V3 x y A,V3 B C D]) C8 u u u h.2.2) (gn ?_))
   obtain⟨iB,fL,fM⟩:=ob fz
   have cw:=aP.f2
   refine lk b1c (ih cw.e1 W X aa ab fE fF fG fH fI fJ ac ak am hD fL) ?_
   rintro iC iD ⟨fN,rfl,cx,iE⟩
   have aQ:=(cw.c1 cx).t3
   refine i5 (qh ⟨aQ.hasK cx.le,aQ.hasObj m2,aQ.hasObj m1⟩ (fun _=>trivial) (gt (a1k u u) (gt (r4 u) (gd' (l4 (l7 (j4 (g6 ?_))))))))
   cases oi fM
   exact ey results100 ⟨fN,u,aQ.s,(s6 _)⟩
  refine sr (lv (F7 u u) (av u (nq (D0 bu u (fun fO bv=>?_) (fun fO bv=>?_)))))
  ·refine n9 (n9 ?_)
   have aR:=U.drew
   refine wh1 (fun w'=>F0 K w'∧A4 J [V6 q1.Kind,sv q1.Field,V3 O R S,V6 q1.From,V6 q1.To,V3 G H I] w'∧A4 T [V6 q2.Id,V3 x y A,V3 B C D] w') (fun w'=>True) 8 [] mixed ⟨aR.hasK kr,aR.hasObj m1,aR.hasObj m0⟩ (fun _=>trivial) (gt (i4 u) (gt (c7 a6A u) (gh (fun _ h=>z8 b5i u u h.2.1) ?_)))
   obtain⟨ao,fP,fQ⟩:=ob bv
   refine gi underlying56 a2C aj fP fun fR fS iF fT fU=>?_
   obtain⟨cy,cz,cA,cB,cC,cD,rfl,fV,fW,fX,fY,fZ,ga⟩:=a0H fT
   have gb:D7 _ fR fS [V6 ao.Kind,sv ao.Field,V3 cy cz cA,V6 ao.From,V6 ao.To,V3 cB cC cD]:=fU
   refine gh (fun _ h=>a1T (cs:=[V6 ao.Kind,sv ao.Field,V3 cy cz cA,V6 ao.From,V6 ao.To,V3 cB cC cD]) a2C u gb u h.1) (gh (fun _ h=>B7 (ds:=[V6 q2.Id,V3 x y A,V3 B C D]) C8 u u u h.2.2) (gn ?_))
   obtain⟨iG,gc,gd⟩:=ob fQ
   have cE:=aR.f2
   refine lk b1c (ih cE.e1 W X aa ab fV fW fX fY fZ ga ac ak am hD gc) ?_
   rintro iH iI ⟨cF,rfl,ah,iJ⟩
   have aH:=(cE.c1 ah).t3
   refine i5 (qh ⟨aH.hasK ah.le,aH.hasObj m2,aH.hasObj m1⟩ (fun _=>trivial) (gt (E9 u u) (gd' (l4 (D0 gd u (fun ge bz=>?_) (fun ge bz=>?_))))))
   ·refine sr (lv (R1 u) (nq (rr (j4 (g6 ?_)))))
    cases oi bz
    exact ey results100 ⟨cF,u,aH.s,R3⟩
   refine i8 (qs ?_)
   have aI:=aH.drew
   refine wh1 (fun w'=>F0 cF w'∧A4 J [V6 q1.Kind,sv q1.Field,V3 O R S,V6 q1.From,V6 q1.To,V3 G H I] w'∧A4 T [V6 q2.Id,V3 x y A,V3 B C D] w') (fun w'=>True) 8 [] mixed ⟨aI.hasK kr,aI.hasObj m2,aI.hasObj m1⟩ (fun _=>trivial) (gt (i4 u) (gt (c7 a6A u) (gh (fun _ h=>z8 b5i u u h.2.1) ?_)))
   obtain⟨ap,gg,gj⟩:=ob bz
   refine gi underlying56 a2C (aj.mono ah.le) gg fun gk gl iK gm go=>?_
   obtain⟨cG,cH,cI,cJ,cK,cL,rfl,gp,gq,gr,gv,gw,gx⟩:=a0H gm
   have gy:D7 _ gk gl [V6 ap.Kind,sv ap.Field,V3 cG cH cI,V6 ap.From,V6 ap.To,V3 cJ cK cL]:=go
   refine gh (fun _ h=>a1T (cs:=[V6 ap.Kind,sv ap.Field,V3 cG cH cI,V6 ap.From,V6 ap.To,V3 cJ cK cL]) a2C u gy u h.1) (gh (fun _ h=>B7 (ds:=[V6 q2.Id,V3 x y A,V3 B C D]) C8 u u u h.2.2) (gn ?_))
   obtain⟨iL,gz,gA⟩:=ob gj
   refine lk b1c (ih aI.e1 (W.mono ah.le) (X.mono ah.le) (aa.mono ah.le) (ab.mono ah.le) gp gq gr gv gw gx ac (ak.mono ah.le) (am.mono ah.le) hD gz) ?_
   rintro iM iN ⟨gB,rfl,cM,gC⟩
   have aS:=(aI.c1 cM).t3
   refine i5 (qh ⟨aS.hasK cM.le,aS.hasObj m2,aS.hasObj m1⟩ (fun _=>trivial) (gt (r4 u) (gd' (l4 (l7 (j4 (g6 ?_)))))))
   cases oi gA
   exact ey results100 ⟨gB,u,aS.s,gC⟩
  refine i8 (q7 (qr (lv (R1 u) (Q9 (fl a6A u b5i m1 U u (lv (p7 underlying56 u aj) (lv (r_m u) (nq ?_))))))))
  obtain⟨gD,gE,aT⟩:=ob bv
  refine j9 (fun E' w'=>∃aU aV,gD= .inl aU∧E'=[(0,pt g1),(13,V6 aU)]∧SH w K (List.flatMap B8.gs [r5 g1 [V3 a b c,V3 d f i,V3 k l m,V3 o q s] 161]) w' aV [r5 g1 [V3 a b c,V3 d f i,V3 k l m,V3 o q s] 161]∧H7 K aV∧j5 aU) ?_ ?_
  ·refine i7 ?_
   obtain⟨iO,gF,cN⟩:=ob gE
   refine qf (fun (bA:Nat) (aJ:Int)=>IW w K (List.flatMap B8.gs [r5 g1 [V3 a b c,V3 d f i,V3 k l m,V3 o q s] 161]) K [(0,pt g1),(4,pt J),(5,pt T),(13,V6 aJ),(154,V3 G H I),(155,V6 (q1.Kids.length:Int)),(156,V6 ((bA:Nat):Int))] [r5 g1 [V3 a b c,V3 d f i,V3 k l m,V3 o q s] 161,r5 J [V6 q1.Kind,sv q1.Field,V3 O R S,V6 q1.From,V6 q1.To,V3 G H I] 58,r5 T [V6 q2.Id,V3 x y A,V3 B C D] 64] (j5 aJ)) gF ⟨K,u,U.f1.f2,kr,R3⟩ ?_ ?_
   ·rintro bA aJ _ gG iP hi446 gH gI ⟨cO,rfl,aW,ae,cP⟩
    refine sr (lv (o4 u u) (ns (y5 u (b8 (by omega)) (i8 (l4 (n9 (i7 (sr ?_))))))))
    obtain⟨Y,gJ,gK⟩:=ob gH
    refine li underlying56 a2C (aj.mono ae) gJ fun gL gM iQ gN gO=>?_
    obtain⟨bB,bC,bD,bE,bF,bG,rfl,gP,gQ,gR,gS,gT,gU⟩:=a0H gN
    have gV:D7 _ gL gM [V6 Y.Kind,sv Y.Field,V3 bB bC bD,V6 Y.From,V6 Y.To,V3 bE bF bG]:=gO
    refine lv (C9 a2C u aW gV u) (al a2C aW fun gW iR gX=>?_)
    have gY:SH _ _ _ _ _ [r5 gW [V6 0,sv [],V3 none 0 0,V6 0,V6 0,V3 none 0 0] 58,_,_,_]:=gX
    refine lw [V6 Y.Kind,sv Y.Field,V3 bB bC bD,V6 Y.From,V6 Y.To,V3 bE bF bG] a2C gY fun iS bH=>(nr (mv u (lv (s7 (ds:=[V6 Y.Kind,sv Y.Field,V3 bB bC bD,V6 Y.From,V6 Y.To,V3 bE bF bG]) a2C u m0 bH u u) (lv (s7 (ds:=[V6 q2.Id,V3 x y A,V3 B C D]) C8 u m3 bH u u) ?_))))
    obtain⟨gZ,hb,hc⟩:=ob gK
    have cQ:=bH.f1
    refine lk b1c (ih cQ.e1 (W.mono ae) (X.mono ae) (aa.mono ae) (ab.mono ae) gP gQ gR gS gT gU ac (ak.mono ae) (am.mono ae) hD hb) ?_
    rintro iT iU ⟨bI,rfl,cR,iV⟩
    have bJ:=(cQ.c1 cR).t4
    refine av u (ns (n9 ?_))
    obtain⟨hd,he,hf⟩:=ob hc
    refine j9 (IV w K (List.flatMap B8.gs [r5 g1 [V3 a b c,V3 d f i,V3 k l m,V3 o q s] 161]) bI [(0,pt g1),(4,pt J),(5,pt T),(13,V6 aJ),(16,V6 gZ),(154,V3 G H I),(155,V6 (q1.Kids.length:Int)),(156,V6 ((bA:Nat):Int)),(170,.bool hd)] [r5 g1 [V3 a b c,V3 d f i,V3 k l m,V3 o q s] 161,r5 J [V6 q1.Kind,sv q1.Field,V3 O R S,V6 q1.From,V6 q1.To,V3 G H I] 58,r5 T [V6 q2.Id,V3 x y A,V3 B C D] 64]) ?_ ?_
    ·refine j3 (mv u (lv (F7 u u) (mv u (bt he (fun ai bK=>?_) (fun ai bK=>?_)))))
     ·refine lg ai (c7 a6x u) (lg ai (x8 G4 u m2 bJ u) (lg ai (F7 u u) (lv (q8 u ai u) (i5 ?_))))
      cases oi bK
      exact qd ⟨bI,u,bJ.s,kr⟩
     refine lu ai (lu ai (lu ai (lv (X8 u ai u) (i5 ?_))))
     cases oi bK
     exact qd ⟨bI,u,bJ.s,kr⟩
    rintro _ iW ⟨cS,rfl,cT,hg⟩
    refine l4 (D0 hf u (fun hh bL=>?_) (fun hh bL=>?_))
    ·refine sr (lv (R1 u) (nq (rr (j4 (g6 (g6 ?_))))))
     cases oi bL
     cases gI _ u
     refine j4 (g6 ?_)
     cases oi cN
     refine g6 ?_
     cases oi aT
     exact ey results100 ⟨cS,u,cT.s,R3⟩
    refine i8 (l4 (j3 (mv u (mv u (lv (u6 u u) (av u (nb (qg (lv (u3 u u (x9 hi446 (b7.max aj))) ?_)))))))))
    refine mv u (i5 ?_)
    cases oi bL
    exact qd ⟨_,u,cS,u,cT,((ae.trans cR.le).trans hg),(s6 _)⟩
   rintro aJ _ gG hi ⟨cO,rfl,aW,ae,cP⟩
   subst hi
   refine sr (lv (o4 u u) (ns (y4 u (c6 (by omega)) (p9 (c9 (c9 (j7 ?_)))))))
   cases oi cN
   exact qd ⟨_,cO,u,u,aW.s,ae,cP⟩
  rintro _ iX ⟨aU,aV,rfl,rfl,hj,iY,hk⟩
  have aT:=D9 aT
  refine qr (mv u (av u (nq (l7 ?_))))
  cases oi aT
  exact ey results100 ⟨aV,u,hj,hk⟩

theorem a8C {q0:o0}{q1:A2}{q2:B5}{r:(List a71)}(hS:SH w K [] w K [])(aE:b7 B3 K A a b q0.Stops)(aF:b7 G5 K B c d q0.Syns)(T:b7 E5 K C f i q1.Docs)(aG:b7 B4 K D k l q1.Entries)(aH:j5 q2.Kind)(aI:q2.Field.length≤maxLen)(aJ:b7 B3 K G m n q2.Words)(aK:j5 q2.From)(aL:j5 q2.To)(aM:b7 a1l K H o p q2.Kids)(hG30:a73 J3 0 q P2 w)(hD: ¬dr.D)(hm:W4 F q0 q1 q2=some r):
  Calls prog 51 #[.agg #[V3 A a b,V3 B c d],.agg #[V3 C f i,V3 D k l],.agg #[V6 q2.Kind,sv q2.Field,V3 G m n,V6 q2.From,V6 q2.To,V3 H o p]] w fun e w'=>∃a_1 n_2 c_3 K',e= .returned (V3 a_1 n_2 c_3)∧SH w K [] w' K' [tail (V3 a_1 n_2 c_3) 108 2]∧b7 b2i K' a_1 n_2 c_3 r:=by
 rw [W4] at hm
 refine ci func51 u ntmps51 (sr (bx u hS fun am ce aU=>?_))
 have aV:SH _ _ _ _ _ [r5 am [V3 A a b,V3 B c d] 38]:=aU
 refine bx u aV fun an cf aW=>?_
 have aX:SH _ _ _ _ _ [r5 an [V3 C f i,V3 D k l] 43,_]:=aW
 refine bx u aX fun V cg aY=>?_
 have aZ:SH _ _ _ _ _ [r5 V [V6 q2.Kind,sv q2.Field,V3 G m n,V6 q2.From,V6 q2.To,V3 H o p] 58,_,_]:=aY
 refine lv (r_n u) (nr (b0 b2i underlying105 a7h aZ fun ae ch ba s aN af=>(av u (ns (n9 ?_)))))
 obtain⟨bb,bc,bd⟩:=ob hm
 refine j9 (IV w K [] ba [(3,pt am),(4,pt an),(5,pt V),(7,V3 ae 0 0),(21,.bool bb)] [r5 am [V3 A a b,V3 B c d] 38,r5 an [V3 C f i,V3 D k l] 43,r5 V [V6 q2.Kind,sv q2.Field,V3 G m n,V6 q2.From,V6 q2.To,V3 H o p] 58,tail (V3 ae 0 0) 108 2]) ?_ ?_
 ·refine j3 (lv (s7 (ds:=[V3 A a b,V3 B c d]) E1 u m3 af u u) (lv (s7 (ds:=[V3 C f i,V3 D k l]) I9 u m2 af u u) ?_))
  obtain⟨cj,be,bf⟩:=ob bc
  refine lk b8p (a2T F af.enter0 (aE.mono s) (aF.mono s) (T.mono s) (aG.mono s) be) ?_
  rintro ck cl ⟨bg,rfl,W⟩
  have X:=(af.c0 W).t4
  refine lv (y3 u) (mv u (bt bf (fun I ao=>?_) (fun I ao=>?_)))
  ·refine lu I (lu I (lu I (lv (L1 u I u) (i5 ?_))))
   cases oi ao
   exact qd ⟨bg,u,X.f1.f2.f3,W.le⟩
  refine lg I (s7 (ds:=[V6 q2.Kind,sv q2.Field,V3 G m n,V6 q2.From,V6 q2.To,V3 H o p]) a2C u m1 X u u) ?_
  obtain⟨cm,bh,bi⟩:=ob ao
  refine A7 (wg u u I) u (A6 (vs:=[.agg #[V6 q2.Kind,sv q2.Field,V3 G m n,V6 q2.From,V6 q2.To,V3 H o p]]) c0G u) (a7s F X.enter0 aH aI (aJ.mono (s.trans W.le)) aK aL (aM.mono (s.trans W.le)) (hG30.keep X) bh) ?_
  rintro cn cp ⟨bj,rfl,aO⟩
  refine⟨_,u,?_⟩
  have bk:=(X.c0 aO).t4
  refine lg I (y3 u) (lv (m9 u I u) (i5 ?_))
  cases oi bi
  exact qd ⟨bj,u,bk.f1.f2.f3,(W.le.trans aO.le)⟩
 rintro _ cq ⟨ag,rfl,ah,x⟩
 refine l4 (D0 bd u (fun bl ap=>?_) (fun bl ap=>?_))
 ·refine sr (mv u (av u (nq (rr ?_))))
  cases oi ap
  exact ey results51 ⟨ae,0,0,ag,u,ah.s,(aN.mono x)⟩
 refine i8 (qr (lv (s7 (ds:=[V3 A a b,V3 B c d]) E1 u m0 ah u u) (lv (s7 (ds:=[V3 C f i,V3 D k l]) I9 u m1 ah u u) (lv (C4 (cs:=#[V3 A a b,V3 B c d,V3 C f i,V3 D k l]) b93 b97 u (by kernel_rfl)) (bx u ah fun aq cr bm=>?_)))))
 have aP:SH _ _ _ _ _ [r5 aq [V3 A a b,V3 B c d,V3 C f i,V3 D k l] 161,_,_,_,_]:=bm
 refine av u (Q9 (fl a0q u a42 m2 aP u (lv (p7 underlying40 u (T.mono (s.trans x))) (lv (r_m u) (nq ?_)))))
 obtain⟨bn,bo,bp⟩:=ob ap
 refine j9 (fun E' w'=>∃Y aa ab ac,E'=[(7,V3 Y aa ab)]∧SH w K [] w' ac [tail (V3 Y aa ab) 108 2]∧H7 ag ac∧b7 b2i ac Y aa ab bn) ?_ ?_
 ·refine i7 ?_
  obtain⟨ct,bq,br⟩:=ob bo
  have bs:=aP.f4.f1.f4.sb (sk (sk (sk (sd (sd sz)))))
  refine qF (fun (aQ:Nat) (ar:(List a71)) E' w'=>∃J O R U,E'=[(5,pt V),(7,V3 J O R),(8,pt aq),(28,V3 C f i),(29,V6 (q1.Docs.length:Int)),(30,V6 ((aQ:Nat):Int))]∧SH w K [] w' U [r5 V [V6 q2.Kind,sv q2.Field,V3 G m n,V6 q2.From,V6 q2.To,V3 H o p] 58,r5 aq [V3 A a b,V3 B c d,V3 C f i,V3 D k l] 161,tail (V3 J O R) 108 2]∧H7 ag U∧b7 b2i U J O R ar) bq ⟨ae,0,0,ag,u,bs,kr,(aN.mono x)⟩ ?_ ?_
  ·rintro aQ ar _ bu cu hi117 bv ⟨J,O,R,U,rfl,ai,y,aj⟩
   refine sr (lv (o4 u u) (ns (y5 u (b8 (by omega)) (i8 (l4 (n9 (i7 (sr ?_))))))))
   obtain⟨S,bz,bA⟩:=ob bv
   refine li underlying40 C8 (T.mono ((s.trans x).trans y)) bz fun bB bC cv bD bE=>?_
   obtain⟨au,aw,ax,ay,az,aA,rfl,aR,bF,bG⟩:=bD
   have bH:D7 _ bB bC [V6 S.Id,V3 au aw ax,V3 ay az aA]:=bE
   refine lv (C9 C8 u ai bH u) (al C8 ai fun bI cw bJ=>?_)
   have bK:SH _ _ _ _ _ [r5 bI [V6 0,V3 none 0 0,V3 none 0 0] 64,_,_,_]:=bJ
   refine lw [V6 S.Id,V3 au aw ax,V3 ay az aA] C8 bK fun cx aB=>(nr (mv u (lv (s7 (ds:=[V6 q2.Kind,sv q2.Field,V3 G m n,V6 q2.From,V6 q2.To,V3 H o p]) a2C u m1 aB u u) (lv (s7 (ds:=[V6 S.Id,V3 au aw ax,V3 ay az aA]) C8 u m0 aB u u) ?_))))
   obtain⟨ak,bL,bM⟩:=ob bA
   have aS:=aB.f2
   refine lk b1c ((a4m F (q0:=(J8.mk q0 q1))) aS.e1 (aE.mono ((s.trans x).trans y)) (aF.mono ((s.trans x).trans y)) (T.mono ((s.trans x).trans y)) (aG.mono ((s.trans x).trans y)) aH aI (aJ.mono ((s.trans x).trans y)) aK aL (aM.mono ((s.trans x).trans y)) aR bF bG hD bL) ?_
   rintro cy cz ⟨bN,rfl,ad,bO⟩
   have aC:=(aS.c1 ad).t4
   refine av u (nr (mv u (lv (E9 u u) (nq (D0 bM u (fun bP aD=>?_) (fun bP aD=>?_))))))
   ·refine j3 (mv u (fl T9 u G4 m1 aC u (mv u (lv (C4 (cs:=#[V6 S.Id,V6 ak]) b92 a7h u (by kernel_rfl)) (lb b2i (.agg #[V6 S.Id,V6 ak]) [V6 S.Id,V6 ak] (a71.mk S.Id ak) underlying105 a7h ⟨u,aR,bO⟩ aC fun cA cB cC aT bQ bR=>?_)))))
    obtain⟨cD,bS,bT⟩:=ob aD
    refine lp underlying105 a7h (aj.mono (ad.le.trans aT)) bQ bS bR.f4 fun bU bV bW cE bX bY bZ ca=>(av u (nb (qg (lv (u3 u u (x9 hi117 (b7.max (T.mono (s.trans x))))) (mv u (i5 ?_))))))
    cases oi bT
    exact qd ⟨bU,bV,bW,bX,u,ca.f2.f4.s,(((y.trans ad.le).trans aT).trans bY),bZ⟩
   refine i8 (q7 (qg (lv (u3 u u (x9 hi117 (b7.max (T.mono (s.trans x))))) (mv u (i5 ?_)))))
   cases oi aD
   exact qd ⟨J,O,R,bN,u,aC.f3.f1.f3.s,(y.trans ad.le),(aj.mono ad.le)⟩
  rintro ar _ bu cb ⟨J,O,R,U,rfl,ai,y,aj⟩
  subst cb
  refine sr (lv (o4 u u) (ns (y4 u (c6 (by omega)) (p9 (c9 (c9 (j7 ?_)))))))
  cases oi br
  exact qd ⟨J,O,R,U,u,ai.s,y,aj⟩
 rintro _ cF ⟨Y,aa,ab,ac,rfl,cc,cG,cd⟩
 refine qr (mv u (av u (nq (l7 ?_))))
 cases oi bp
 exact ey results51 ⟨Y,aa,ab,ac,u,cc,cd⟩

theorem a7q {q0:o0}{q1:A2}{q2:B5}{r:(List Int)}(hS:SH w K [] w K [])(ah:b7 B3 K A a b q0.Stops)(ai:b7 G5 K B c d q0.Syns)(aj:b7 E5 K C f i q1.Docs)(ak:b7 B4 K D k l q1.Entries)(am:j5 q2.Kind)(an:q2.Field.length≤maxLen)(ao:b7 B3 K G m n q2.Words)(ap:j5 q2.From)(aq:j5 q2.To)(ar:b7 a1l K H o p q2.Kids)(hG30:a73 J3 0 q P2 w)(hD: ¬dr.D)(hm:N8 F q0 q1 q2=some r):
  Calls prog 17 #[.agg #[V3 A a b,V3 B c d],.agg #[V3 C f i,V3 D k l],.agg #[V6 q2.Kind,sv q2.Field,V3 G m n,V6 q2.From,V6 q2.To,V3 H o p]] w fun e w'=>∃a_1 n_2 c_3 K',e= .returned (V3 a_1 n_2 c_3)∧SH w K [] w' K' [tail (V3 a_1 n_2 c_3) 3 1]∧b7 F2 K' a_1 n_2 c_3 r:=by
 rw [N8] at hm
 refine ci func17 u ntmps17 (sr (bx u hS fun au bv aw=>?_))
 have ax:SH _ _ _ _ _ [r5 au [V3 A a b,V3 B c d] 38]:=aw
 refine bx u ax fun ay bz az=>?_
 have aA:SH _ _ _ _ _ [r5 ay [V3 C f i,V3 D k l] 43,_]:=az
 refine bx u aA fun aB bA aC=>?_
 have aD:SH _ _ _ _ _ [r5 aB [V6 q2.Kind,sv q2.Field,V3 G m n,V6 q2.From,V6 q2.To,V3 H o p] 58,_,_]:=aC
 refine lv (r_n u) (nr (b0 F2 underlying30 G4 aD fun aE bB bC x aF y=>(av u (Q9 (lv (s7 (ds:=[V3 A a b,V3 B c d]) E1 u m3 y u u) (lv (s7 (ds:=[V3 C f i,V3 D k l]) I9 u m2 y u u) (lv (s7 (ds:=[V6 q2.Kind,sv q2.Field,V3 G m n,V6 q2.From,V6 q2.To,V3 H o p]) a2C u m1 y u u) ?_)))))))
 obtain⟨aG,aH,aI⟩:=ob hm
 refine lk c0r (a8C F y.enter0 (ah.mono x) (ai.mono x) (aj.mono x) (ak.mono x) am an (ao.mono x) ap aq (ar.mono x) (hG30.keep y) hD aH) ?_
 rintro bD bE ⟨aJ,aK,aL,Y,rfl,ad,aa⟩
 have aM:=(y.c0 ad).t5
 refine lv (p7 underlying105 u aa) (lv (r_m u) (nq ?_))
 obtain⟨aN,aO,aP⟩:=ob aI
 refine j9 (fun E' w'=>∃S T U V,E'=[(7,V3 S T U)]∧SH w K [] w' V [tail (V3 S T U) 3 1]∧H7 Y V∧b7 F2 V S T U aN) ?_ ?_
 ·refine i7 ?_
  obtain⟨bF,aQ,aR⟩:=ob aO
  have aS:=aM.sb (sd (sk (sd (sd (sd sz)))))
  refine qF (fun (ae:Nat) (ab:(List Int)) E' w'=>∃I J O R,E'=[(7,V3 I J O),(14,V3 aJ aK aL),(15,V6 (aG.length:Int)),(16,V6 ((ae:Nat):Int))]∧SH w K [] w' R [tail (V3 I J O) 3 1]∧H7 Y R∧b7 F2 R I J O ab) aQ ⟨aE,0,0,Y,u,aS,kr,(aF.mono ad.le)⟩ ?_ ?_
  ·rintro ae ab _ aT bG hi88 aU ⟨I,J,O,R,rfl,W,X,ac⟩
   refine sr (lv (o4 u u) (ns (y5 u (b8 (by omega)) (i8 (l4 (n9 (i7 (sr ?_))))))))
   obtain⟨s,aV,aW⟩:=ob aU
   refine li underlying105 a7h (aa.mono X) aV fun aX aY bH aZ ba=>?_
   obtain⟨rfl,bb,bI⟩:=aZ
   have bc:D7 _ aX aY [V6 s.Doc,V6 s.Points]:=ba
   refine lv (C9 a7h u W bc u) (al a7h W fun bd bJ be=>?_)
   have bf:SH _ _ _ _ _ [r5 bd [V6 0,V6 0] 108,_]:=be
   refine lw [V6 s.Doc,V6 s.Points] a7h bf fun bK af=>(nq (j3 (mv u (fl b7b u G4 m0 af u (lb F2 (V6 s.Doc) [V6 s.Doc] s.Doc underlying30 G4 ⟨u,bb⟩ af fun bL bM bN ag bg bh=>?_)))))
   obtain⟨bO,bi,bj⟩:=ob aW
   refine lp underlying30 G4 (ac.mono ag) bg bi bh.f2 fun bk bl bm bP bn bo bp bq=>(av u (nb (qg (lv (u3 u u (x9 hi88 (b7.max aa))) (mv u (i5 ?_))))))
   cases oi bj
   exact qd ⟨bk,bl,bm,bn,u,bq.s,((X.trans ag).trans bo),bp⟩
  rintro ab _ aT br ⟨I,J,O,R,rfl,W,X,ac⟩
  subst br
  refine sr (lv (o4 u u) (ns (y4 u (c6 (by omega)) (p9 (c9 (c9 (j7 ?_)))))))
  cases oi aR
  exact qd ⟨I,J,O,R,u,W,X,ac⟩
 rintro _ bQ ⟨S,T,U,V,rfl,bs,bR,bu⟩
 refine qr (mv u (av u (nq (l7 ?_))))
 cases oi aP
 exact ey results17 ⟨S,T,U,V,u,bs,bu⟩

theorem a5b {q0:o0}{q1:l3}{q2:List l3}{r:(List l3)}(hS:SH w K [] w K [])(ae:b7 B3 K A a b q0.Stops)(af:b7 G5 K B c d q0.Syns)(V:q1.length≤maxLen)(ag:b7 B3 K C f i q2)(hm:a0c F q0 q1 q2=some r):
  Calls prog 54 #[.agg #[V3 A a b,V3 B c d],sv q1,V3 C f i] w fun e w'=>∃a_1 n_2 c_3 K',e= .returned (V3 a_1 n_2 c_3)∧SH w K [] w' K' [tail (V3 a_1 n_2 c_3) 9 1]∧b7 B3 K' a_1 n_2 c_3 r:=by
 rw [a0c] at hm
 refine ci func54 u ntmps54 (sr (bx u hS fun ah bd ai=>?_))
 have W:SH _ _ _ _ _ [r5 ah [V3 A a b,V3 B c d] 38]:=ai
 refine lv (r_n u) (nr (mv u ?_))
 obtain⟨be,aj,ak⟩:=ob hm
 refine lk b8r (a1Z F W.enter0 V aj) ?_
 rintro bf bg ⟨bh,bi,bj,bk,rfl,x,am⟩
 have an:=(W.c0 x).t2
 refine lv (p7 underlying110 u am) ?_
 obtain⟨ao,ap,aq⟩:=ob ak
 refine b39 (t:=B3) wn u underlying22 D8 u u u ap ⟨u,(by decide :([]:l3).length≤maxLen)⟩ an fun s cs34 bl hmx38 hrow36 J=>?_
 obtain⟨m39,hm40⟩: ∃m,m=ao.length:=⟨_,u⟩
 rw [←hm40] at hmx38
 rw [←hm40]
 refine av u (Q9 (lv (s7 (ds:=[V3 A a b,V3 B c d]) E1 u m2 J u u) (mv u ?_)))
 obtain⟨ar,au,aw⟩:=ob aq
 refine lk b5J (V8 F J.enter0 (ae.mono x.le) (af.mono x.le) V au) ?_
 rintro bm bn ⟨ax,ay,az,O,rfl,R,y⟩
 have aA:=(J.c0 R).t4
 refine lv (p7 underlying101 u y) (lv (r_m u) (nq ?_))
 obtain⟨X,aB,aC⟩:=ob aw
 refine j9 (fun E' w'=>∃cs60 D,E'=[(7,V3 (some ⟨s,0,none⟩) m39 m39)]∧SH w K [] w' D [r5 s cs60 9]∧H7 O D∧A9 true B3 D cs60 X∧m39=X.length) ?_ ?_
 ·refine i7 ?_
  obtain⟨bo,aD,aE⟩:=ob aB
  have aF:=aA.sb (sd (sk (sd (sd sz))))
  refine qF (fun (Y:Nat) (G:(List l3)) E' w'=>∃cs72 l,E'=[(2,V3 C f i),(7,V3 (some ⟨s,0,none⟩) m39 m39),(16,V3 ax ay az),(17,V6 (ar.length:Int)),(18,V6 ((Y:Nat):Int))]∧SH w K [] w' l [r5 s cs72 9]∧H7 O l∧A9 true B3 l cs72 G∧m39=G.length) aD ⟨cs34,O,u,aF,kr,(A9.mono R.le hrow36),hm40⟩ ?_ ?_
  ·rintro Y G _ aG bp hi77 aH ⟨cs72,l,rfl,H,o,hrow73,hm74⟩
   refine sr (lv (o4 u u) (ns (y5 u (b8 (by omega)) (i8 (l4 (n9 (i7 (sr ?_))))))))
   obtain⟨k,aI,aJ⟩:=ob aH
   refine li underlying101 E3 (y.mono o) aI fun aK aL bq aM aN=>?_
   obtain⟨rfl,aa,br⟩:=aM
   have aO:D7 _ aK aL [sv k.Text,V6 k.At]:=aN
   refine lv (C9 E3 u H aO u) (al E3 H fun aP bs aQ=>?_)
   have aR:SH _ _ _ _ _ [r5 aP [sv [],V6 0] 104,_]:=aQ
   refine lw [sv k.Text,V6 k.At] E3 aR fun bu S=>(nr (mv u (fl a0h u D8 m0 S u ?_)))
   obtain⟨bv,aS,aT⟩:=ob aJ
   refine lk b5L (G7 F S.enter0 (ag.mono ((x.le.trans R.le).trans o)) aa aS) ?_
   rintro bz bA ⟨ab,rfl,q⟩
   have I:=(S.c0 q).t2
   refine nq (D0 aT u (fun aU T=>?_) (fun aU T=>?_))
   ·refine j3 (mv u (fl a0i u G4 m0 I u (fl a0h u D8 m0 I u ?_)))
    obtain⟨aV,U,aW⟩:=ob T
    obtain⟨bB,aX,aY⟩:=A9.at (A9.mono q.le hrow73) U
    obtain⟨rfl,bC⟩:=aX
    have bD: ∀(j:Nat) (d:Value),[sv aV][j]? =some d→cs72[k.At.toNat*B3.size+j]? =some d:=aY
    refine lv (N6 (t:=B3) underlying22 D8 u u hm74 U) (a2M (t:=B3) (v:=sv k.Text) (e:=k.Text) wn D8 u u ⟨u,aa⟩ I.f1 (A9.mono q.le hrow73) U fun cs116 bE hrow118 aZ=>?_)
    have hm120:=hm74.trans (List.length_set (i:=k.At.toNat) (a:=k.Text)).symm
    refine nb (qg (lv (u3 u u (x9 hi77 (b7.max y))) (mv u (i5 ?_))))
    cases oi aW
    exact qd ⟨cs116,ab,u,aZ.s,(o.trans q.le),hrow118,hm120⟩
   refine i8 (q7 (qg (lv (u3 u u (x9 hi77 (b7.max y))) (mv u (i5 ?_)))))
   cases oi T
   exact qd ⟨cs72,ab,u,I.s,(o.trans q.le),(A9.mono q.le hrow73),hm74⟩
  rintro G _ aG ba ⟨cs72,l,rfl,H,o,hrow73,hm74⟩
  subst ba
  refine sr (lv (o4 u u) (ns (y4 u (c6 (by omega)) (p9 (c9 (c9 (j7 ?_)))))))
  cases oi aE
  exact qd ⟨cs72,l,u,H,o,hrow73,hm74⟩
 rintro _ bF ⟨cs60,D,rfl,bb,bG,hrow61,hm62⟩
 refine qr (mv u (av u (nq (l7 ?_))))
 obtain⟨bc,bH,ac,ad⟩:=SH.freeze bb hrow61 (b0N hm62 hmx38)
 rw [←hm62] at ac ad
 cases oi aC
 exact ey results54 ⟨(some ⟨s,0,none⟩),m39,m39,bc,u,ad,ac⟩

theorem a8y {q0:o0}{q1:l3}{q2:List l3}{q3:Int}{r:Int}(hS:SH w K [] w K [])(aJ:b7 B3 K A a b q0.Stops)(aK:b7 G5 K B c d q0.Syns)(aL:q1.length≤maxLen)(I:b7 B3 K C f i q2)(bg:j5 q3)(hm:a0u F q0 q1 q2 q3=some r):
  Calls prog 52 #[.agg #[V3 A a b,V3 B c d],sv q1,V3 C f i,V6 q3] w (R_i w K r):=by
 rw [a0u] at hm
 refine ci func52 u ntmps52 (sr (bx u hS fun m dh bh=>?_))
 have al:SH _ _ _ _ _ [r5 m [V3 A a b,V3 B c d] 38]:=bh
 refine lv (R1 u) (ns (n9 ?_))
 obtain⟨bi,bj,bk⟩:=ob hm
 refine j9 (IV w K [] K [(1,sv q1),(2,V3 C f i),(3,V6 q3),(4,pt m),(37,.bool bi)] [r5 m [V3 A a b,V3 B c d] 38]) ?_ ?_
 ·refine j3 (lv (s7 (ds:=[V3 A a b,V3 B c d]) E1 u m0 al u u) ?_)
  obtain⟨di,bl,bm⟩:=ob bj
  refine lk b6Z (a08 F al.enter0 aJ aK bl) ?_
  rintro dj dk ⟨bn,rfl,J⟩
  have am:=(al.c0 J).t1
  refine lv (y3 u) (mv u (bt bm (fun o an=>?_) (fun o an=>?_)))
  ·refine lu o (lu o (lu o (lv (L1 u o u) (mv u (lu u (lu u (lu u (lv (L1 u u u) (mv u ?_)))))))))
   refine lu u (lu u (lu u (lv (L1 u u u) (i5 ?_))))
   cases oi an
   exact qd ⟨bn,u,am,J.le⟩
  refine lg o (i4 u) ?_
  obtain⟨dl,bo,bp⟩:=ob an
  refine A7 (wg u u o) u (A6 (vs:=[sv q1]) b62 u) (a1b F am.enter0 aL bo) ?_
  rintro dm dn ⟨aM,rfl,O⟩
  refine⟨_,u,?_⟩
  have aa:=(am.c0 O).t1
  refine lg o (y3 u) (lv (m9 u o u) (mv u (bt bp (fun q ao=>?_) (fun q ao=>?_))))
  ·refine lu q (lu q (lu q (lv (L1 u q u) (mv u (lu u (lu u (lu u (lv (L1 u u u) (i5 ?_)))))))))
   cases oi ao
   exact qd ⟨aM,u,aa,(J.le.trans O.le)⟩
  refine lg q (i4 u) (lg q (p7 underlying22 u (I.mono (J.le.trans O.le))) (lg q (E9 u u) (lv (m9 u q u) (mv u (bt ao (fun x ap=>?_) (fun x ap=>?_))))))
  ·refine lu x (lu x (lu x (lv (L1 u x u) (i5 ?_))))
   cases oi ap
   exact qd ⟨aM,u,aa,(J.le.trans O.le)⟩
  refine lg x (i4 u) ?_
  obtain⟨dp,bq,br⟩:=ob ap
  refine A7 (wg u u x) u (A6 (vs:=[V6 q3,V6 1,V6 12]) a19 u) (z6 F aa.enter0 bg (by decide :j5 1) (by decide :j5 12) bq) ?_
  rintro dq dr ⟨bs,rfl,aN⟩
  refine⟨_,u,?_⟩
  have bu:=(aa.c0 aN).t1
  refine lg x (y3 u) (lv (m9 u x u) (i5 ?_))
  cases oi br
  exact qd ⟨bs,u,bu,((J.le.trans O.le).trans aN.le)⟩
 rintro _ dt ⟨ab,rfl,aO,G⟩
 refine l4 (D0 bk u (fun bv aq=>?_) (fun bv aq=>?_))
 ·refine sr (lv (r4 (v:=V6 (-1)) u) (nq (rr ?_)))
  cases oi aq
  exact ey results52 ⟨ab,u,aO.s,(by decide :j5 (-1))⟩
 refine i8 (qs (sr (mv u (lv (p7 underlying22 u (I.mono G)) (lv (r_m u) (nq ?_))))))
 obtain⟨bz,bA,ac⟩:=ob aq
 refine j9 (IE bz w K [] ab [(1,sv q1),(2,V3 C f i),(3,V6 q3),(4,pt m)] [r5 m [V3 A a b,V3 B c d] 38]) ?_ ?_
 ·refine i7 ?_
  obtain⟨du,bB,aP⟩:=ob bA
  refine qf (fun (ar:Nat) (aQ:Unit)=>IV w K [] ab [(1,sv q1),(2,V3 C f i),(3,V6 q3),(4,pt m),(38,V3 C f i),(39,V6 (q2.length:Int)),(40,V6 ((ar:Nat):Int))] [r5 m [V3 A a b,V3 B c d] 38]) bB ⟨ab,u,aO,kr⟩ ?_ ?_
  ·rintro ar aQ _ bC dv hi78 bD bE ⟨au,rfl,R,S⟩
   refine sr (lv (o4 u u) (ns (y5 u (b8 (by omega)) (i8 (l4 (n9 (i7 (sr (mv u ?_)))))))))
   obtain⟨aR,bF,bG⟩:=ob bD
   refine li underlying22 D8 (I.mono (G.trans S)) bF fun bH bI dw bJ bK=>?_
   obtain⟨rfl,aS⟩:=bJ
   have bL:D7 _ bH bI [sv aR]:=bK
   refine lv (z2 D8 u R (bL 0 _ u)) (av u (av u (ns ?_)))
   obtain⟨bM,bN,bO⟩:=ob bG
   refine j9 (IV w K [] au [(1,sv q1),(2,V3 C f i),(3,V6 q3),(4,pt m),(38,V3 C f i),(39,V6 (q2.length:Int)),(40,V6 ((ar:Nat):Int)),(54,.bool bM)] [r5 m [V3 A a b,V3 B c d] 38]) ?_ ?_
   ·refine j3 (mv u ?_)
    obtain⟨dx,bP,bQ⟩:=ob bN
    refine lk a5l (D2 F R.enter0 aS bP) ?_
    rintro dy dz ⟨bR,rfl,ad⟩
    have aw:=(R.c0 ad).t1
    refine lv (y3 u) (mv u (bt bQ (fun y ax=>?_) (fun y ax=>?_)))
    ·iterate 5 refine lu y ?_
     refine lv (L1 u y u) (i5 ?_)
     cases oi ax
     exact qd ⟨bR,u,aw,ad.le⟩
    refine lg y (i4 u) (lg y (i4 u) ?_)
    obtain⟨dA,bS,bT⟩:=ob ax
    refine a7X (t:=B3) (wg u u y) u underlying22 D8 u u (I.mono ((G.trans S).trans ad.le)) bS fun bU bV bW bX=>(lg y (i4 u) ?_)
    obtain⟨dB,bY,bZ⟩:=ob bT
    refine A7 (wg u u y) u (A6 (vs:=[V3 bU bV bW,sv aR]) b5L u) (G7 F aw.enter0 bX aS bY) ?_
    rintro dC dD ⟨ca,rfl,aT⟩
    refine⟨_,u,?_⟩
    have cb:=(aw.c0 aT).t1
    refine lv (m9 u y u) (i5 ?_)
    cases oi bZ
    exact qd ⟨ca,u,cb,(ad.le.trans aT.le)⟩
   rintro _ dE ⟨aU,rfl,aV,cc⟩
   refine l4 (D0 bO u (fun cd ay=>?_) (fun cd ay=>?_))
   ·refine sr (lv (r4 (v:=V6 (-1)) u) (nq (l7 (j4 (g6 (g6 ?_))))))
    cases oi ay
    cases bE _ u
    refine j4 (g6 ?_)
    cases oi aP
    refine g6 ?_
    cases oi ac
    exact ey results52 ⟨aU,u,aV.s,(by decide :j5 (-1))⟩
   refine i8 (q7 (qg (lv (u3 u u (x9 hi78 (b7.max (I.mono G)))) (mv u (i5 ?_)))))
   cases oi ay
   exact qd ⟨_,u,aU,u,aV,(S.trans cc)⟩
  rintro aQ _ bC ce ⟨au,rfl,R,S⟩
  subst ce
  refine sr (lv (o4 u u) (ns (y4 u (c6 (by omega)) (p9 (c9 (c9 (j7 ?_)))))))
  cases oi aP
  exact qd ⟨_,au,u,u,R,S⟩
 rintro _ dF ⟨dG,dH,rfl,rfl,az,aA⟩
 have ac:=D9 ac
 refine qr (lv (s7 (ds:=[V3 A a b,V3 B c d]) E1 u m0 az u u) (mv u (mv u ?_)))
 obtain⟨dI,cf,cg⟩:=ob ac
 refine lk b9Q (a5b F az.enter0 (aJ.mono (G.trans aA)) (aK.mono (G.trans aA)) aL (I.mono (G.trans aA)) cf) ?_
 rintro dJ dK ⟨ae,af,ag,aB,rfl,ch,aW⟩
 have cj:=(az.c0 ch).t2
 refine av u (nr (lv (R1 u) (lv (r4 (v:=V6 (-1)) u) (lv (r4 (v:=V6 (-1)) u) (Q9 (lv (R1 u) (nq ?_)))))))
 obtain⟨aX,ck,cl⟩:=ob cg
 refine j9 (IW w K [] aB [(12,V6 aX)] [] (j5 aX)) ?_ ?_
 ·refine i7 ?_
  obtain⟨dL,cm,cn⟩:=ob ck
  have cp:=cj.sb (sd (sd sz))
  refine qw (fun (k:Int×Int×Int×Int)=>IW w K [] aB [(3,V6 q3),(11,V3 ae af ag),(12,V6 k.1),(13,V6 k.2.1),(14,V6 k.2.2.1),(15,V6 k.2.2.2)] [] (j5 k.1∧j5 k.2.1∧j5 k.2.2.1∧j5 k.2.2.2)) cm ⟨aB,u,cp,kr,R3,(by decide :j5 (-1)),(by decide :j5 (-1)),R3⟩ ?_
  rintro k _ dM dN cq cr ⟨ah,rfl,aY,T,aZ,cs,ct,cu⟩
  refine n9 (sr (mv u (mv u (lv (u6 u u) (mv u (lv (p7 underlying22 u (aW.mono T)) (lv (U4 u u) (nq (D0 cq u (fun cv aC=>?_) (fun cv aC=>?_))))))))))
  ·refine i8 (qs (i7 (sr (b2r wn u aY fun H dO cw=>?_))))
   have cx:SH _ _ _ _ _ [a7m H ([]:List l3)]:=cw
   refine av u (lv (R1 u) (Q9 (mv u (mv u (mv u (mv u (lv (u6 u u) ?_)))))))
   obtain⟨cy,cz,cA⟩:=ob aC
   refine b6O (t:=B3) wn u underlying22 D8 u u u (aW.mono T) cz fun cB cC cD ai=>(lv (p7 underlying22 u ai) (lv (r_m u) (nq ?_)))
   obtain⟨U,cE,cF⟩:=ob cA
   refine j9 (IW w K [] ah [(3,V6 q3),(11,V3 ae af ag),(12,V6 k.1),(13,V6 k.2.1),(14,V6 k.2.2.1),(15,V6 k.2.2.2),(16,.map (some H)),(17,V6 U.1)] [a7m H U.2] (j5 U.1)) ?_ ?_
   ·refine i7 ?_
    obtain⟨dP,cG,cH⟩:=ob cE
    refine qF (fun (ba:Nat) (V:Int×(List l3))=>IW w K [] ah [(3,V6 q3),(11,V3 ae af ag),(12,V6 k.1),(13,V6 k.2.1),(14,V6 k.2.2.1),(15,V6 k.2.2.2),(16,.map (some H)),(17,V6 V.1),(74,V3 cB cC cD),(75,V6 (cy.length:Int)),(76,V6 ((ba:Nat):Int))] [a7m H V.2] (j5 V.1)) cG ⟨ah,u,cx,kr,R3⟩ ?_ ?_
    ·rintro ba V _ cI dQ hi197 cJ ⟨aj,rfl,W,X,aD⟩
     refine sr (lv (o4 u u) (ns (y5 u (b8 (by omega)) (i8 (l4 (n9 (i7 (sr ?_))))))))
     obtain⟨bb,cK,cL⟩:=ob cJ
     refine li underlying22 D8 (ai.mono X) cK fun cM cN dR cO cP=>?_
     obtain⟨rfl,dS⟩:=cO
     have cQ:D7 _ cM cN [sv bb]:=cP
     refine lv (z2 D8 u W (cQ 0 _ u)) (av u (nr (mv u (lv (X9 (r:=([]:l3)) u u) (nq (D0 cL u (fun cR aE=>?_) (fun cR aE=>?_)))))))
     ·refine sr (mv u (mv u (b7R (s:=bb) wn underlying163 underlying9 u u u W fun dT cS=>(nq (j3 (mv u (lv (u6 u u) (av u (nb ?_)))))))))
      refine qg (lv (u3 u u (x9 hi197 (b7.max ai))) (mv u (i5 ?_)))
      cases oi aE
      exact qd ⟨aj,u,cS,X,(s6 _)⟩
     refine i8 (q7 (qg (lv (u3 u u (x9 hi197 (b7.max ai))) (mv u (i5 ?_)))))
     cases oi aE
     exact qd ⟨aj,u,W,X,aD⟩
    rintro V _ cI cT ⟨aj,rfl,W,X,aD⟩
    subst cT
    refine sr (lv (o4 u u) (ns (y4 u (c6 (by omega)) (p9 (c9 (c9 (j7 ?_)))))))
    cases oi cH
    exact qd ⟨aj,u,W,X,aD⟩
   rintro _ dU ⟨ak,rfl,Y,bc,cU⟩
   refine qs ?_
   obtain⟨cV,cW,cX⟩:=ob cF
   refine j9 (IV w K [] ak [(3,V6 q3),(11,V3 ae af ag),(12,V6 k.1),(13,V6 k.2.1),(14,V6 k.2.2.1),(15,V6 k.2.2.2),(16,.map (some H)),(17,V6 U.1),(101,.bool cV)] [a7m H U.2]) ?_ ?_
   ·refine j3 (mv u ?_)
    obtain⟨dV,cY,cZ⟩:=ob cW
    refine lv (b0P underlying163 u m0 Y cY) (mv u (lv (E9 u u) (mv u (bt cZ (fun l aF=>?_) (fun l aF=>?_)))))
    ·iterate 5 refine lu l ?_
     refine D4 (uu u u) u (D4 (uu u u) u (D4 (uu u u) u (lu l (lv (L1 u l u) (i5 ?_)))))
     cases oi aF
     exact qd ⟨ak,u,Y,kr⟩
    refine lg l (i4 u) ?_
    obtain⟨dW,da,db⟩:=ob aF
    refine lg l (b0P underlying163 u m0 Y da) (lg l (i4 u) (lg l (F7 u u) (lg l (i4 u) (bt db (fun D aG=>?_) (fun D aG=>?_)))))
    ·refine lg D (i4 u) (lg D (i4 u) (lg D (E9 u u) (lg l (q8 u D u) (lv (m9 u l u) (i5 ?_)))))
     cases oi aG
     exact qd ⟨ak,u,Y,kr⟩
    refine lu D (lu D (lu D (lg l (X8 u D u) (lv (m9 u l u) (i5 ?_)))))
    cases oi aG
    exact qd ⟨ak,u,Y,kr⟩
   rintro _ dX ⟨bd,rfl,aH,be⟩
   refine l4 (D0 cX u (fun dc aI=>?_) (fun dc aI=>?_))
   ·refine j3 (mv u (mv u ?_))
    obtain⟨dY,bf,dd⟩:=ob aI
    refine lv (b0P underlying163 u m0 aH bf) (mv u (av u (av u (av u (nb (l4 (j3 (mv u (lv (u6 u u) ?_)))))))))
    refine av u (i5 ?_)
    cases oi dd
    exact qd ⟨_,u,bd,u,aH.s,((T.trans bc).trans be),cu,(b3x bf).2,cU,(s6 _)⟩
   refine i8 (q7 (l4 (j3 (mv u (lv (u6 u u) (av u (i5 ?_)))))))
   cases oi aI
   exact qd ⟨_,u,bd,u,aH.s,((T.trans bc).trans be),aZ,cs,ct,(s6 _)⟩
  refine p9 (c9 (c9 ?_))
  cases oi aC
  cases cr _ u
  refine j7 ?_
  cases oi cn
  exact qd ⟨ah,u,aY,T,aZ⟩
 rintro _ dZ ⟨de,rfl,df,ea,dg⟩
 refine qr (mv u (av u (nq (l7 ?_))))
 cases oi cl
 exact ey results52 ⟨de,u,df,dg⟩

theorem a6G {q0:o0}{q1:l3}{q2:List l3}{q3:Int}{r:l3}(hS:SH w K [] w K [])(aq:b7 B3 K A a b q0.Stops)(ar:b7 G5 K B c d q0.Syns)(G:q1.length≤maxLen)(au:b7 B3 K C f i q2)(aN:j5 q3)(hD: ¬dr.D)(hm:V1 F q0 q1 q2 q3=some r):
  Calls prog 18 #[.agg #[V3 A a b,V3 B c d],sv q1,V3 C f i,V6 q3] w fun e w'=>∃K',e= .returned (sv r)∧SH w K [] w' K' []∧r.length≤maxLen:=by
 rw [V1] at hm
 refine ci func18 u ntmps18 (sr (bx u hS fun aO cz aP=>?_))
 have ac:SH _ _ _ _ _ [r5 aO [V3 A a b,V3 B c d] 38]:=aP
 refine lv (r_s u) (nr (lv (s7 (ds:=[V3 A a b,V3 B c d]) E1 u m0 ac u u) (mv u (mv u (mv u ?_)))))
 obtain⟨ad,aQ,aR⟩:=ob hm
 refine lk c0s (a8y F ac.enter0 aq ar G au aN aQ) ?_
 rintro cA cB ⟨aS,rfl,H,aT⟩
 have ae:=(ac.c0 H).t1
 refine av u (Q9 (mv u (lv (o4 u u) (nq (D0 aR u (fun aU af=>?_) (fun aU af=>?_))))))
 ·refine sr (lv (r_s u) (nq (rr ?_)))
  cases oi af
  exact ey results18 ⟨aS,u,ae.s,(by decide :([]:l3).length≤maxLen)⟩
 refine i8 (qr (mv u ?_))
 obtain⟨cC,aV,aW⟩:=ob af
 refine lk b8r (a1Z F ae.enter0 G aV) ?_
 rintro cD cE ⟨I,J,O,cF,rfl,R,S⟩
 have ag:=(ae.c0 R).t2
 refine av u (nr (lv (s7 (ds:=[V3 A a b,V3 B c d]) E1 u m1 ag u u) (mv u (mv u ?_))))
 obtain⟨cG,aX,aY⟩:=ob aW
 refine lk b9Q (a5b F ag.enter0 (aq.mono (H.le.trans R.le)) (ar.mono (H.le.trans R.le)) G (au.mono (H.le.trans R.le)) aX) ?_
 rintro cH cI ⟨aw,ax,ay,cJ,rfl,o,aZ⟩
 have ba:=(ag.c0 o).t3
 refine av u (nr (mv u (mv u (lv (u6 u u) (mv u (lv (p7 underlying110 u (S.mono o.le)) (lv (b3W u u) ?_)))))))
 obtain⟨T,bb,bc⟩:=ob aY
 have bd:=oi bb
 refine lv (b3T u (congrArg (Value.int .i64) bd)) (nr (b0 B3 underlying22 D8 ba fun be cK ah U bf bg=>(av u (Q9 (mv u (av u (nq ?_)))))))
 obtain⟨bh,bi,bj⟩:=ob bc
 refine j9 (fun E' w'=>∃V W X Y,E'=[(9,V6 ad),(10,V3 I J O),(12,V6 T),(13,V3 V W X)]∧SH w K [] w' Y [tail (V3 V W X) 9 1]∧H7 ah Y∧b7 B3 Y V W X bh) ?_ ?_
 ·refine i7 ?_
  obtain⟨cL,bk,bl⟩:=ob bi
  have bm:=bg.sb (sk (sd (sd (sd sz))))
  refine qw (fun (q:(List l3)×Int) E' w'=>∃k l m x,E'=[(1,sv q1),(9,V6 ad),(10,V3 I J O),(11,V3 aw ax ay),(12,V6 T),(13,V3 k l m),(14,V6 q.2)]∧SH w K [] w' x [tail (V3 k l m) 9 1]∧H7 ah x∧b7 B3 x k l m q.1∧j5 q.2) bk ⟨be,0,0,ah,u,bm,kr,bf,aT⟩ ?_
  rintro q _ cM cN bn bo ⟨k,l,m,x,rfl,az,y,aA,cO⟩
  refine n9 (sr (mv u (mv u (lv (o4 u u) (nq (D0 bn u (fun bp ai=>?_) (fun bp ai=>?_)))))))
  ·refine i8 (qs (i7 (n9 (D3 mixed (by kernel_rfl) az (km u (km u (km u ?_)))))))
   obtain⟨aa,bq,br⟩:=ob ai
   refine ki underlying110 a0p (S.mono ((o.le.trans U).trans y)) bq fun bs bu cP bv bz=>?_
   obtain⟨rfl,cQ,cR,cS,cT⟩:=bv
   have bA:D7 _ bs bu [sv aa.Text,V6 aa.At,V6 aa.From,V6 aa.To]:=bz
   refine kv (c7 b3s u) (kh (z7 G4 u (bA 2 _ u)) (km u (km u ?_)))
   obtain⟨ab,bB,bC⟩:=ob br
   refine ki underlying110 a0p (S.mono ((o.le.trans U).trans y)) bB fun bD bE cU bF bG=>?_
   obtain⟨rfl,cV,cW,cX,cY⟩:=bF
   have bH:D7 _ bD bE [sv ab.Text,V6 ab.At,V6 ab.From,V6 ab.To]:=bG
   refine kv (c7 b0m u) (kh (z7 G4 u (bH 3 _ u)) ?_)
   obtain⟨cZ,aB,bI⟩:=ob bC
   refine kv (a91 underlying9 u u u aB) (kv (r4 u) (A3 ?_))
   rintro da ⟨aj,ak,al⟩
   refine qs (sr (mv u (mv u ?_)))
   obtain⟨bJ,bK,bL⟩:=ob bI
   refine li underlying22 D8 (aZ.mono ((U.trans y).trans al)) bK fun bM bN db bO bP=>?_
   obtain⟨rfl,dc⟩:=bO
   have bQ:D7 _ bM bN [sv bJ]:=bP
   refine lv (z2 D8 u ak (bQ 0 _ u)) (lv (X9 (r:=([]:l3)) u u) (nq ?_))
   obtain⟨D,bR,bS⟩:=ob bL
   refine j9 (IW w K [] aj [(1,sv q1),(9,V6 ad),(10,V3 I J O),(11,V3 aw ax ay),(12,V6 T),(13,V3 k l m),(14,V6 q.2),(15,sv D)] [tail (V3 k l m) 9 1] (D.length≤maxLen)) ?_ ?_
   ·refine D0 bR u (fun bT am=>?_) (fun bT am=>?_)
    ·refine j3 (mv u ?_)
     obtain⟨dd,bU,bV⟩:=ob am
     refine lv (a0L (s:=([91]:l3)) u u bU) ?_
     obtain⟨de,aC,bW⟩:=ob bV
     refine lv (a0L (r:=([93]:l3)) u u aC) (av u (i5 ?_))
     cases oi bW
     exact qd ⟨aj,u,ak,kr,(a2b aC)⟩
    refine i8 ?_
    cases oi am
    exact qd ⟨aj,u,ak,kr,(a1H G aB)⟩
   rintro _ df ⟨dg,rfl,bX,aD,bY⟩
   refine l4 (j3 (mv u (mv u (lb B3 (sv D) [sv D] D underlying22 D8 ⟨u,bY⟩ bX fun dh di dj aE bZ ca=>?_))))
   obtain⟨dk,cb,cc⟩:=ob bS
   refine lp underlying22 D8 (aA.mono ((al.trans aD).trans aE)) bZ cb ca.f1 fun cd ce cf dl cg ch cj ck=>(av u (nb (l4 (j3 (mv u (lv (u6 u u) (av u (i5 ?_))))))))
   cases oi cc
   exact qd ⟨_,u,cd,ce,cf,cg,u,ck.s,((((y.trans al).trans aD).trans aE).trans ch),cj,(s6 _)⟩
  refine p9 (c9 (c9 ?_))
  cases oi ai
  cases bo _ u
  refine j7 ?_
  cases oi bl
  exact qd ⟨k,l,m,x,u,az,y,aA⟩
 rintro _ dm ⟨V,W,X,Y,rfl,aF,cl,cm⟩
 refine qr (mv u ?_)
 obtain⟨dn,cn,cp⟩:=ob bj
 refine lk b9R (a9N Tryz.strings_Join_none Tryz.strings_Join aF.enter0 cm hD cn) ?_
 rintro dp dq ⟨an,rfl,aG,cq⟩
 have aH:=(aF.c0 aG).t1
 refine av u (Q9 (mv u (lv (E9 u u) (nq ?_))))
 obtain⟨aI,cr,cs⟩:=ob cp
 refine j9 (IW w K [] an [(10,V3 I J O),(12,V6 T),(16,sv aI)] [] (aI.length≤maxLen)) ?_ ?_
 ·refine D0 cr u (fun ct ao=>?_) (fun ct ao=>?_)
  ·refine j3 (mv u ?_)
   obtain⟨dt,aJ,cu⟩:=ob ao
   refine lv (a0L (s:=([46,46,32]:l3)) u u aJ) (av u (i5 ?_))
   cases oi cu
   exact qd ⟨an,u,aH.s,kr,(a2b aJ)⟩
  refine i8 ?_
  cases oi ao
  exact qd ⟨an,u,aH.s,kr,cq⟩
 rintro _ du ⟨aK,rfl,aL,cv,cw⟩
 refine qs (sr (mv u (mv u (lv (p7 underlying110 u (b7.mono ((((o.le.trans U).trans cl).trans aG.le).trans cv) S)) (lv (o4 u u) (nq (D0 cs u (fun cx ap=>?_) (fun cx ap=>?_))))))))
 ·refine j3 (mv u ?_)
  obtain⟨dv,aM,cy⟩:=ob ap
  refine lv (a0L (r:=([32,46,46]:l3)) u u aM) (av u (nr (mv u (av u (nq (l7 ?_))))))
  cases oi cy
  exact ey results18 ⟨aK,u,aL,(a2b aM)⟩
 refine i8 (qr (mv u (av u (nq (l7 ?_)))))
 cases oi ap
 exact ey results18 ⟨aK,u,aL,cw⟩
end Go.Proofs.YtpdfkjjmcnhakaaGreatDoor
