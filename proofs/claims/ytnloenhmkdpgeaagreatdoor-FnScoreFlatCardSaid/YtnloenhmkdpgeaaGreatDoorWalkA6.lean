/-
 Walks of the functions. Printed by gen.py.
-/
import Derived.Test.YtnloenhmkdpgeaaGreatDoorWalkA0
import Derived.Test.YtnloenhmkdpgeaaGreatDoorWalkA2
import Derived.Test.YtnloenhmkdpgeaaGreatDoorWalkA3
set_option linter.unusedVariables false
set_option linter.unusedSectionVars false
set_option maxRecDepth 100000
namespace Go.Proofs.YtnloenhmkdpgeaaGreatDoor
set_option maxHeartbeats 4000000
open Go Go.Fk Go.RowKit Tryz
variable (F:Nat){w:World}{K:F9}{Z:List Nat}{g1 g2 g3:Nat}{A B C D G H I J O R S T:Option Addr}{a b c d f i k l m n o p q s v x y aa ab ac ad ae af ag:Nat}
variable [dr:Dr]

theorem b4H {q0:u6}{q1:List A1}{r:A5}(hS:SH w K [] w K [])(bH:b7 D9 K A a b q0.Stops)(bI:b7 L0 K B c d q0.Syns)(ay:b7 F6 K C f i q1)(hm:a4k F q0 q1=some r):
  Calls prog 62 #[.agg #[V3 A a b,V3 B c d],V3 C f i] w fun e w'=>∃a_1 n_2 c_3 a_5 n_6 c_7 K',e= .returned (.agg #[V3 a_1 n_2 c_3,V3 a_5 n_6 c_7])∧SH w K [] w' K' [tail (V3 a_5 n_6 c_7) 99 3]∧b7 F6 K' a_1 n_2 c_3 r.Docs∧b7 B8 K' a_5 n_6 c_7 r.Entries:=by
 rw [a4k] at hm
 refine ci func62 rfl ntmps62 (sr (bx rfl hS fun l eA bV=>?_))
 have bW:SH _ _ _ _ _ [s7 l [V3 A a b,V3 B c d] 26]:=bV
 refine al C4 bW fun k eB bX=>?_
 have bi:SH _ _ _ _ _ [s7 k [V3 none 0 0,V3 none 0 0] 30,_]:=bX
 refine ns (o4 ?_)
 obtain⟨bY,bZ,ca⟩:=ob hm
 refine l4 (IV w K [] K [(1,V3 C f i),(2,pt l),(4,pt k),(19,.bool bY)] [s7 l [V3 A a b,V3 B c d] 26,s7 k [V3 none 0 0,V3 none 0 0] 30]) ?_ ?_
 ·refine j5 (lv (j6 (ds:=[V3 A a b,V3 B c d]) B9 rfl m1 bi rfl rfl) ?_)
  obtain⟨eC,cb,cc⟩:=ob bZ
  refine lk c4v (a52 F bi.enter0 bH bI cb) ?_
  rintro eD eE ⟨cd,rfl,aK⟩
  have bj:=(bi.c0 aK).t2
  refine lv (A4 rfl) (mv rfl (bt cc (fun o bk=>?_) (fun o bk=>?_)))
  ·refine lu o (lu o (lu o (lv (J6 rfl o rfl) (i8 ?_))))
   cases oi bk
   exact qd ⟨cd,rfl,bj.f1,aK.le⟩
  refine lg o (i5 rfl) ?_
  obtain⟨eF,ce,cf⟩:=ob bk
  refine A3 (wg rfl rfl o) rfl (A2 (vs:=[V3 C f i]) c6A rfl) (a8s F bj.enter0 (ay.mono aK.le) ce) ?_
  rintro eG eH ⟨cg,rfl,bJ⟩
  refine⟨_,rfl,?_⟩
  have ch:=(bj.c0 bJ).t2
  refine lg o (A4 rfl) (lv (l9 rfl o rfl) (i8 ?_))
  cases oi cf
  exact qd ⟨cg,rfl,ch.f1,(aK.le.trans bJ.le)⟩
 rintro _ eI ⟨cj,rfl,bl,S⟩
 refine l5 (D5 ca rfl (fun ck bm=>?_) (fun ck bm=>?_))
 ·refine sr (lv (C3 (cs:=#[V3 none 0 0,V3 none 0 0]) c5h C4 rfl (by kernel_rfl)) (lw [V3 none 0 0,V3 none 0 0] C4 bl.f1 fun eJ bK=>(nq (rr ?_))))
  cases oi bm
  have cl:=bK.nil 99 3
  exact ez results62 C4 bK m0 ⟨none,0,0,none,0,0,cj,rfl,cl.s,(b7.nil _ _),(b7.nil _ _)⟩
 refine j3 (qr (mv rfl ?_))
 obtain⟨eK,cm,cn⟩:=ob bm
 refine lk c5v (b0G F bl.enter0 (ay.mono S) cm) ?_
 rintro eL eM ⟨bn,bo,bp,eN,rfl,U,cp⟩
 have cq:=(bl.c0 U).t3
 refine b0 B8 underlying28 P2 cq fun bq eO br V eP cr=>(lv (C3 (cs:=#[V3 bn bo bp,V3 bq 0 0]) c5h C4 rfl (by kernel_rfl)) (al C4 cr fun m eQ ct=>?_))
 have cu:SH _ _ _ _ _ [s7 m [V3 none 0 0,V3 none 0 0] 30,_,_,_,_]:=ct
 refine lw [V3 bn bo bp,V3 bq 0 0] C4 cu fun eR cv=>(O7 (mv rfl (lv (q9 underlying27 rfl (ay.mono ((S.trans U.le).trans V))) (lv (r_m rfl) (nq ?_)))))
 obtain⟨bL,cw,cx⟩:=ob cn
 refine l4 (fun E' w'=>∃X Y aa I J O lay94 aL,E'=[(4,pt k),(5,pt m)]∧SH w K [] w' aL [s7 k [V3 none 0 0,V3 none 0 0] 30,s7 m [V3 X Y aa,V3 I J O] 30,a8D (S6 99 48 3 I J O lay94)]∧M0 br aL∧b7 F6 aL X Y aa bL.Docs∧a7A lay94 bL.Entries) ?_ ?_
 ·refine j7 ?_
  obtain⟨eS,cy,cz⟩:=ob cw
  have cA:=c0J (TP:=48) (TI:=3) cv.f1
  have cB:=cA.f1.f4.f4.sb (sk (sk (sk (sk (sd sz)))))
  refine qF (fun (ab:Nat) (aM:A5) E' w'=>∃ac ad ae af ag ah lay112 q,E'=[(2,pt l),(4,pt k),(5,pt m),(25,V3 C f i),(26,V6 (q1.length:Int)),(27,V6 ((ab:Nat):Int))]∧SH w K [] w' q [s7 l [V3 A a b,V3 B c d] 26,s7 k [V3 none 0 0,V3 none 0 0] 30,s7 m [V3 ac ad ae,V3 af ag ah] 30,a8D (S6 99 48 3 af ag ah lay112)]∧M0 br q∧b7 F6 q ac ad ae aM.Docs∧a7A lay112 aM.Entries) cy ⟨bn,bo,bp,bq,0,0,[],br,rfl,cB,kr,(cp.mono V),⟨(fun _ h=>by cases h),rfl⟩⟩ ?_ ?_
  ·rintro ab aM _ cC eT hi121 cD ⟨ac,ad,ae,af,ag,ah,lay112,q,rfl,aN,ai,bs,bu⟩
   refine sr (lv (u7 rfl rfl) (ns (C9 rfl (b8 (by omega)) (j3 (l5 (o4 (j7 (sr ?_))))))))
   obtain⟨s,cE,cF⟩:=ob cD
   refine li underlying27 E8 (b7.mono (((S.trans U.le).trans V).trans ai) ay) cE fun cG cH eU cI cJ=>?_
   obtain⟨D,G,H,az,aA,aB,rfl,cK,bv,eV⟩:=cI
   have cL:F1 _ cG cH [V6 s.Id,V3 D G H,V3 az aA aB]:=cJ
   refine lv (F3 E8 rfl aN cL rfl) (al E8 aN fun R eW cM=>?_)
   have cN:SH _ _ _ _ _ [s7 R [V6 0,V3 none 0 0,V3 none 0 0] 44,_,_,_,_]:=cM
   refine lw [V6 s.Id,V3 D G H,V3 az aA aB] E8 cN fun eX bM=>(nr (fl a1x rfl a7g m0 bM rfl (lv (q9 underlying41 rfl bv) (lv (r_m rfl) (nq ?_)))))
   obtain⟨bN,cO,cP⟩:=ob cF
   refine l4 (fun E' w'=>∃aO aP aQ aR aS aT lay162 aC,E'=[(2,pt l),(4,pt k),(5,pt m),(25,V3 C f i),(26,V6 (q1.length:Int)),(27,V6 ((ab:Nat):Int))]∧SH w K [] w' aC [s7 l [V3 A a b,V3 B c d] 26,s7 k [V3 none 0 0,V3 none 0 0] 30,s7 m [V3 aO aP aQ,V3 aR aS aT] 30,a8D (S6 99 48 3 aR aS aT lay162)]∧M0 q aC∧b7 F6 aC aO aP aQ bN.Docs∧a7A lay162 bN.Entries) ?_ ?_
   ·refine j7 ?_
    obtain⟨eY,cQ,cR⟩:=ob cO
    refine qF (fun (aU:Nat) (aV:A5) E' w'=>∃aj ak am an ao ap lay180 aq,E'=[(2,pt l),(4,pt k),(5,pt m),(7,pt R),(25,V3 C f i),(26,V6 (q1.length:Int)),(27,V6 ((ab:Nat):Int)),(32,V3 D G H),(33,V6 (s.Fields.length:Int)),(34,V6 ((aU:Nat):Int))]∧SH w K [] w' aq [s7 l [V3 A a b,V3 B c d] 26,s7 k [V3 none 0 0,V3 none 0 0] 30,s7 m [V3 aj ak am,V3 an ao ap] 30,a8D (S6 99 48 3 an ao ap lay180),s7 R [V6 s.Id,V3 D G H,V3 az aA aB] 44]∧M0 q aq∧b7 F6 aq aj ak am aV.Docs∧a7A lay180 aV.Entries) cQ ⟨ac,ad,ae,af,ag,ah,lay112,q,rfl,bM.f4.f4.f4.f4,kr,bs,bu⟩ ?_ ?_
    ·rintro aU aV _ cS eZ hi187 cT ⟨aj,ak,am,an,ao,ap,lay180,aq,rfl,aW,ar,bz,bA⟩
     refine sr (lv (u7 rfl rfl) (ns (C9 rfl (b8 (by omega)) (j3 (l5 (o4 (j7 (sr ?_))))))))
     obtain⟨au,cU,cV⟩:=ob cT
     refine li underlying41 U6 (bv.mono ar) cU fun cW cX fb cY cZ=>?_
     obtain⟨rfl,da,db⟩:=cY
     have dc:F1 _ cW cX [sv au.Name,sv au.Text]:=cZ
     refine lv (F3 U6 rfl aW dc rfl) (al U6 aW fun bB fc dd=>?_)
     have de:SH _ _ _ _ _ [s7 bB [sv [],sv []] 148,_,_,_,_,_]:=dd
     refine lw [sv au.Name,sv au.Text] U6 de fun fd aX=>(nr (lv (j6 (ds:=[V3 A a b,V3 B c d]) B9 rfl m1 aX rfl rfl) (fl b0n rfl G7 m0 aX rfl ?_)))
     obtain⟨df,dg,dh⟩:=ob cV
     refine lk c1J (a2c F aX.enter0 (b7.mono ((((S.trans U.le).trans V).trans ai).trans ar) bH) (b7.mono ((((S.trans U.le).trans V).trans ai).trans ar) bI) db dg) ?_
     rintro fe fg ⟨di,dj,dk,bC,rfl,bD,bE⟩
     have dl:=(aX.c0 bD).t7
     refine lv (q9 underlying104 rfl bE) (lv (r_m rfl) (nq ?_))
     obtain⟨bO,dm,dn⟩:=ob dh
     refine l4 (fun E' w'=>∃aY aZ ba bb bc bd lay233 aD,E'=[(2,pt l),(4,pt k),(5,pt m),(7,pt R),(25,V3 C f i),(26,V6 (q1.length:Int)),(27,V6 ((ab:Nat):Int)),(32,V3 D G H),(33,V6 (s.Fields.length:Int)),(34,V6 ((aU:Nat):Int))]∧SH w K [] w' aD [s7 l [V3 A a b,V3 B c d] 26,s7 k [V3 none 0 0,V3 none 0 0] 30,s7 m [V3 aY aZ ba,V3 bb bc bd] 30,a8D (S6 99 48 3 bb bc bd lay233),s7 R [V6 s.Id,V3 D G H,V3 az aA aB] 44]∧M0 bC aD∧b7 F6 aD aY aZ ba bO.Docs∧a7A lay233 bO.Entries) ?_ ?_
     ·refine j7 ?_
      obtain⟨fh,dp,dq⟩:=ob dm
      have dt:=dl.f1.f6.f6.f6.f6.f6.sb (sk (sk (sk (sk (sk (sk (sd sz)))))))
      refine qF (fun (bP:Nat) (be:A5) E' w'=>∃aE aF aG aH aI aJ lay251 aw,E'=[(2,pt l),(4,pt k),(5,pt m),(7,pt R),(9,pt bB),(25,V3 C f i),(26,V6 (q1.length:Int)),(27,V6 ((ab:Nat):Int)),(32,V3 D G H),(33,V6 (s.Fields.length:Int)),(34,V6 ((aU:Nat):Int)),(41,V3 di dj dk),(42,V6 (df.length:Int)),(43,V6 ((bP:Nat):Int))]∧SH w K [] w' aw [s7 l [V3 A a b,V3 B c d] 26,s7 k [V3 none 0 0,V3 none 0 0] 30,s7 m [V3 aE aF aG,V3 aH aI aJ] 30,a8D (S6 99 48 3 aH aI aJ lay251),s7 R [V6 s.Id,V3 D G H,V3 az aA aB] 44,s7 bB [sv au.Name,sv au.Text] 148]∧M0 bC aw∧b7 F6 aw aE aF aG be.Docs∧a7A lay251 be.Entries) dp ⟨aj,ak,am,an,ao,ap,lay180,bC,rfl,dt,kr,(bz.mono bD.le),bA⟩ ?_ ?_
      ·rintro bP be _ du fi hi261 dv ⟨aE,aF,aG,aH,aI,aJ,lay251,aw,rfl,bf,bg,bF,bG⟩
       refine sr (lv (u7 rfl rfl) (ns (C9 rfl (b8 (by omega)) (j3 (l5 (o4 (j7 (sr ?_))))))))
       obtain⟨ax,dw,dx⟩:=ob dv
       refine li underlying104 M3 (bE.mono bg) dw fun dy dz fj dA dB=>?_
       obtain⟨rfl,dC,dD⟩:=dA
       have dE:F1 _ dy dz [sv ax.Text,V6 ax.At]:=dB
       refine lv (F3 M3 rfl bf dE rfl) (al M3 bf fun dF fk dG=>?_)
       have dH:SH _ _ _ _ _ [s7 dF [sv [],V6 0] 107,_,_,_,_,_,_]:=dG
       refine lw [sv ax.Text,V6 ax.At] M3 dH fun fm bh=>(nq (j5 (fl a5a rfl G7 m6 bh rfl (lv (j6 (ds:=[sv ax.Text,V6 ax.At]) M3 rfl m0 bh rfl rfl) (fl P6 rfl E6 m5 bh rfl ?_)))))
       obtain⟨fn,dI,dJ⟩:=ob dx
       have bQ:=bh.f4.f4
       refine lk c5w (b2x F bQ.e2 bF bG da dC dD cK dI) ?_
       rintro fo fp ⟨dK,dL,dM,dN,dO,dP,lay296,dQ,rfl,bR,dR,dS⟩
       have dT:=(bQ.c2 bR).t7
       refine nb (qg (lv (B6 rfl rfl (C6 hi261 (b7.max bE))) (mv rfl (i8 ?_))))
       cases oi dJ
       exact qd ⟨dK,dL,dM,dN,dO,dP,lay296,dQ,rfl,dT.f6.f6.f3.f3.f6.f6.s,(bg.trans bR.le),dR,dS⟩
      rintro be _ du dU ⟨aE,aF,aG,aH,aI,aJ,lay251,aw,rfl,bf,bg,bF,bG⟩
      subst dU
      refine sr (lv (u7 rfl rfl) (ns (C8 rfl (c6 (by omega)) (y4 (g8 (g8 (l6 ?_)))))))
      cases oi dq
      exact qd ⟨aE,aF,aG,aH,aI,aJ,lay251,aw,rfl,bf.s,bg,bF,bG⟩
     rintro _ fq ⟨aY,aZ,ba,bb,bc,bd,lay233,aD,rfl,dV,dW,dX,dY⟩
     refine x8 (qg (lv (B6 rfl rfl (C6 hi187 (b7.max bv))) (mv rfl (i8 ?_))))
     cases oi dn
     exact qd ⟨aY,aZ,ba,bb,bc,bd,lay233,aD,rfl,dV,((ar.trans bD.le).trans dW),dX,dY⟩
    rintro aV _ cS dZ ⟨aj,ak,am,an,ao,ap,lay180,aq,rfl,aW,ar,bz,bA⟩
    subst dZ
    refine sr (lv (u7 rfl rfl) (ns (C8 rfl (c6 (by omega)) (y4 (g8 (g8 (l6 ?_)))))))
    cases oi cR
    exact qd ⟨aj,ak,am,an,ao,ap,lay180,aq,rfl,aW.s,ar,bz,bA⟩
   rintro _ fr ⟨aO,aP,aQ,aR,aS,aT,lay162,aC,rfl,ea,eb,ec,ed⟩
   refine x8 (qg (lv (B6 rfl rfl (C6 hi121 (b7.max (ay.mono ((S.trans U.le).trans V))))) (mv rfl (i8 ?_))))
   cases oi cP
   exact qd ⟨aO,aP,aQ,aR,aS,aT,lay162,aC,rfl,ea,(ai.trans eb),ec,ed⟩
  rintro aM _ cC ee ⟨ac,ad,ae,af,ag,ah,lay112,q,rfl,aN,ai,bs,bu⟩
  subst ee
  refine sr (lv (u7 rfl rfl) (ns (C8 rfl (c6 (by omega)) (y4 (g8 (g8 (l6 ?_)))))))
  cases oi cz
  exact qd ⟨ac,ad,ae,af,ag,ah,lay112,q,rfl,aN.s,ai,bs,bu⟩
 rintro _ fs ⟨X,Y,aa,I,J,O,lay94,aL,rfl,bS,ft,ef,eg⟩
 refine qr (fl M2 rfl a1e m1 bS rfl ?_)
 obtain⟨fu,cs315,eh,hrow317,hm318,ei⟩:=c3z bS.f2 eg
 obtain⟨fv,ej,ek⟩:=ob cx
 refine A3 wn rfl (A2 (vs:=[V3 I J O,.func (.func 113) #[] #[]]) c5x rfl) (c0N (T:=B8) sortLay112 b7G rfl (fun w=>Go.Fk.a5P P2 w) (fun w=>Go.Fk.T7 P2 w) (fun a b=>W3 F a b) 113 (Go.Proofs.enters_of func113 (by kernel_rfl) rfl) ei hrow317 hm318 (fun K1 W v x u y r hW h1 h2 hm=>by
  obtain⟨fx,fy,fz,rfl,en,eo,ep⟩:=h1
  obtain⟨fA,fB,fC,rfl,eq,es,et⟩:=h2
  exact(b2w (dr:=⟨True⟩) F (SH.start (dr:=⟨True⟩) hW) en eo ep eq es et hm).mono fun e w' ⟨K',he,hS',_⟩=>⟨K',he,hS'⟩) ej) ?_
 rintro fD fE ⟨cs335,rfl,bT,hrow337,hm338⟩
 refine⟨_,rfl,?_⟩
 refine nr (lv (j6 (ds:=[V3 X Y aa,V3 I J O]) C4 rfl m2 bT rfl rfl) (lw [V3 X Y aa,V3 I J O] C4 bT.f1 fun fF eu=>(nq (j9 ?_))))
 obtain⟨ev,ew,ex,bU⟩:=SH.freezeI eu.f1 hrow337 hm338
 cases oi ek
 exact ez results62 C4 bU m1 ⟨X,Y,aa,I,J,O,ev,rfl,bU.s,(ef.mono (eh.trans ew)),ex⟩

theorem J1 {q0:u6}{q1:A5}{r:Bool}(hS:SH w K [] w K [])(T:b7 D9 K A a b q0.Stops)(U:b7 L0 K B c d q0.Syns)(V:b7 F6 K C f i q1.Docs)(ab:b7 B8 K D k l q1.Entries)(hm:H8 F q0 q1=some r):
  Calls prog 16 #[.agg #[V3 A a b,V3 B c d],.agg #[V3 C f i,V3 D k l]] w (R_b w K r):=by
 rw [H8] at hm
 refine ci func16 u ntmps16 (sr (bx u hS fun s az ac=>?_))
 have ad:SH _ _ _ _ _ [s7 s [V3 A a b,V3 B c d] 26]:=ac
 refine bx u ad fun x aA ae=>?_
 have O:SH _ _ _ _ _ [s7 x [V3 C f i,V3 D k l] 30,_]:=ae
 refine lv (O6 u) (ns (o4 ?_))
 obtain⟨af,ag,ah⟩:=ob hm
 refine l4 (IV w K [] K [(2,pt s),(3,pt x),(13,.bool af)] [s7 s [V3 A a b,V3 B c d] 26,s7 x [V3 C f i,V3 D k l] 30]) ?_ ?_
 ·refine j5 (lv (j6 (ds:=[V3 A a b,V3 B c d]) B9 u m1 O u u) ?_)
  obtain⟨aB,ai,aj⟩:=ob ag
  refine lk c4v (a52 F O.enter0 T U ai) ?_
  rintro aC aD ⟨ak,rfl,y⟩
  have G:=(O.c0 y).t2
  refine lv (A4 u) (mv u (bt aj (fun m R=>?_) (fun m R=>?_)))
  ·refine lu m (lu m (lu m (lu m (lv (J6 u m u) (i8 ?_)))))
   cases oi R
   exact qd ⟨ak,u,G.f1,y.le⟩
  refine lg m (c7 L3 u) (lg m (w8 a1b u m0 G u) ?_)
  obtain⟨aE,al,am⟩:=ob R
  refine A3 (wg u u m) u (A2 (vs:=[V3 C f i]) c6A u) (a8s F G.enter0 (V.mono y.le) al) ?_
  rintro aF aG ⟨an,rfl,W⟩
  refine⟨_,u,?_⟩
  have ao:=(G.c0 W).t2
  refine lg m (A4 u) (lv (l9 u m u) (i8 ?_))
  cases oi am
  exact qd ⟨an,u,ao.f1,(y.le.trans W.le)⟩
 rintro _ aH ⟨X,rfl,Y,H⟩
 refine l5 (D5 ah u (fun ap S=>?_) (fun ap S=>?_))
 ·refine sr (lv (O6 u) (nq (rr ?_)))
  cases oi S
  exact ey results16 ⟨X,u,Y.s⟩
 refine j3 (qs ?_)
 have o:=Y.drew
 refine j_0 (fun w'=>H0 X w'∧B0 s [V3 A a b,V3 B c d] w'∧B0 x [V3 C f i,V3 D k l] w') 9 [] mixed ⟨o.hasK kr,o.hasObj m0,o.hasObj m1⟩ (jh 0 u (fun _ h=>A0 (ds:=[V3 A a b,V3 B c d]) B9 u u u h.2.1) (jv 1 u (c7 L3 u) (jh 2 u (fun _ h=>B5 a1b u u h.2.2) (jv 5 u (c7 M2 u) (jh 6 u (fun _ h=>B5 a1e u u h.2.2) (j1 3 u ?_))))))
 obtain⟨aI,aq,ar⟩:=ob S
 refine lk c64 (b4H F o.enter0 (T.mono H) (U.mono H) (V.mono H) aq) ?_
 rintro aJ aK ⟨aL,aM,aN,aO,aP,aQ,aR,rfl,I,aS,au⟩
 have q:=(o.c0 I).t3
 refine P0 ⟨q.hasK I.le,q.hasObj m1,q.hasObj m2⟩ (jv 4 u (b7s c4H a1e u (.inl ⟨u,u⟩)) (j1 7 u ?_))
 obtain⟨aT,aw,ax⟩:=ob ar
 refine lk c63 (a2g F q.enter0 au (ab.mono (H.trans I.le)) aw) ?_
 rintro aU aV ⟨ay,rfl,aa⟩
 have J:=(q.c0 aa).t3
 refine P0 ⟨J.hasK (I.le.trans aa.le),J.hasObj m1,J.hasObj m2⟩ (jv 8 u (u9 u) (jd (l5 (j9 ?_))))
 cases oi ax
 exact ey results16 ⟨ay,u,J.s⟩
end Go.Proofs.YtnloenhmkdpgeaaGreatDoor
