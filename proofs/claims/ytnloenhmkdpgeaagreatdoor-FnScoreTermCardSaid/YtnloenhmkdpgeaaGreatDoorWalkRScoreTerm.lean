/-
 Walks of the functions. Printed by gen.py.
-/
import Derived.Test.YtnloenhmkdpgeaaGreatDoorModelLScoreTerm
import Derived.Test.YtnloenhmkdpgeaaGreatDoorWalkA0
import Derived.Test.YtnloenhmkdpgeaaGreatDoorWalkA4
import Derived.Test.YtnloenhmkdpgeaaGreatDoorWalkFS
set_option linter.unusedVariables false
set_option linter.unusedSectionVars false
set_option maxRecDepth 100000
namespace Go.Proofs.YtnloenhmkdpgeaaGreatDoor
set_option maxHeartbeats 4000000
open Go Go.Fk Go.RowKit Tryz
variable (F:Nat){w:World}{K:F9}{Z:List Nat}{g1 g2 g3:Nat}{A B C D G H I J O R S T:Option Addr}{a b c d f i k l m n o p q s v x y aa ab ac ad ae af ag:Nat}
variable [dr:Dr]

theorem a9n {q0:List UInt8}{r:Bool}(hS:SH w K [] w K [])(bG:b7 tU8 K A a b q0)(hG6:a4i y6 1 c G8 w)(hD: ¬dr.D)(hm:a1O F q0=some r):
  Calls prog 3 #[V3 A a b] w (R_b w K r):=by
 rw [a1O] at hm
 refine ci func3 rfl ntmps3 (sr (lv (O6 rfl) (O7 (mv rfl (lv (q9 underlying22 rfl bG) (lv (E7 rfl rfl) (nq (R9 rfl (fun bj=>?_) (fun bj=>?_)))))))))
 ·have h8:=a1a bj hm
  refine sr (lv (r_t rfl) (nq (rr ?_)))
  cases oi h8
  exact ey results3 ⟨K,rfl,hS⟩
 have h8:=a09 bj hm
 refine j3 (qr (mv rfl ?_))
 obtain⟨s,bY,bZ⟩:=ob h8
 refine lk c2N (a0U F hS.enter0 bG bY) ?_
 rintro eW eX ⟨y,B,C,D,G,H,J,O,R,S,T,U,eY,rfl,ca,ab,ac,V,ah,an,bH⟩
 have cb:=(hS.c0 ca).t3
 refine mv rfl (lv (y3 rfl rfl) (lv (y3 rfl rfl) (lv (y3 rfl rfl) (lv (y3 rfl rfl) (al B9 cb fun W eZ cc=>?_)))))
 have cd:SH _ _ _ _ _ [s7 W [V3 none 0 0,V3 none 0 0] 26,_,_,_]:=cc
 refine al C4 cd fun X fb ce=>?_
 have cf:SH _ _ _ _ _ [s7 X [V3 none 0 0,V3 none 0 0] 30,_,_,_,_]:=ce
 refine lw [V3 y B C,V3 D G H] B9 cf.f1 fun fc cg=>(lw [V3 J O R,V3 S T U] C4 cg.f1 fun fd ch=>(av rfl (av rfl (nr (mv rfl (mv rfl (lb D9 (sv s.2.2.2) [sv s.2.2.2] s.2.2.2 underlying23 G7 ⟨rfl,bH⟩ ch fun ad fe fg d bI cj=>(lv (C3 (cs:=#[V6 2,sv s.2.2.1,V3 ad 1 1,V6 0,V6 0,V3 none 0 0]) a7c B1 rfl (by kernel_rfl)) (al B1 cj fun Y fh ck=>?_)))))))))
 have cl:SH _ _ _ _ _ [s7 Y [V6 0,sv [],V3 none 0 0,V6 0,V6 0,V3 none 0 0] 35,_,_,_,_,_,_]:=ck
 refine lw [V6 2,sv s.2.2.1,V3 ad 1 1,V6 0,V6 0,V3 none 0 0] B1 cl fun fi aL=>(nr (lv (j6 (ds:=[V3 y B C,V3 D G H]) B9 rfl m3 aL rfl rfl) (lv (j6 (ds:=[V3 J O R,V3 S T U]) C4 rfl m2 aL rfl rfl) ?_)))
 obtain⟨cm,cn,cp⟩:=ob bZ
 refine lk a9k (J1 F aL.enter0 (ab.mono d) (ac.mono d) (V.mono d) (ah.mono d) cn) ?_
 rintro fj fk ⟨cq,rfl,f⟩
 have aM:=(aL.c0 f).t7
 refine av rfl (ns (o4 ?_))
 obtain⟨cr,ct,cu⟩:=ob cp
 refine l4 (IV w K [] cq [(3,pt W),(4,pt X),(5,sv s.2.2.1),(6,sv s.2.2.2),(7,pt Y),(8,.bool cm),(43,.bool cr)] [s7 W [V3 y B C,V3 D G H] 26,s7 X [V3 J O R,V3 S T U] 30,s7 Y [V6 2,sv s.2.2.1,V3 ad 1 1,V6 0,V6 0,V3 none 0 0] 35]) ?_ ?_
 ·refine j5 (mv rfl (lv (j6 (ds:=[V3 y B C,V3 D G H]) B9 rfl m3 aM rfl rfl) (lv (j6 (ds:=[V3 J O R,V3 S T U]) C4 rfl m2 aM rfl rfl) ?_)))
  obtain⟨fm,cv,cw⟩:=ob ct
  refine lk c2O (a5c F aM.enter0 (ab.mono (d.trans f.le)) (ac.mono (d.trans f.le)) (V.mono (d.trans f.le)) (ah.mono (d.trans f.le)) cv) ?_
  rintro fn fo ⟨bJ,rfl,bl⟩
  have bK:=(aM.c0 bl).t7
  refine lv (b5g underlying4 rfl rfl) (mv rfl (bt cw (fun ao bm=>?_) (fun ao bm=>?_)))
  ·refine lu ao (lu ao (lv (J6 rfl ao rfl) (i8 ?_)))
   cases oi bm
   exact qd ⟨bJ,rfl,bK.f2.f3.s,bl.le⟩
  refine lg ao (i5 rfl) (lg ao (A4 rfl) (lv (l9 rfl ao rfl) (i8 ?_)))
  cases oi bm
  exact qd ⟨bJ,rfl,bK.f2.f3.s,bl.le⟩
 rintro _ fp ⟨cx,rfl,aA,i⟩
 refine l5 (D5 cu rfl (fun cy bn=>?_) (fun cy bn=>?_))
 ·refine sr (mv rfl (lv (j6 (ds:=[V3 y B C,V3 D G H]) B9 rfl m0 aA rfl rfl) (lv (j6 (ds:=[V3 J O R,V3 S T U]) C4 rfl m1 aA rfl rfl) ?_)))
  obtain⟨fq,cz,cA⟩:=ob bn
  refine lk c2O (a5c F aA.enter0 (ab.mono ((d.trans f.le).trans i)) (ac.mono ((d.trans f.le).trans i)) (V.mono ((d.trans f.le).trans i)) (ah.mono ((d.trans f.le).trans i)) cz) ?_
  rintro fr fs ⟨cB,rfl,cC⟩
  have cD:=(aA.c0 cC).t3
  refine lv (b1J underlying4 rfl rfl) (av rfl (nq (rr ?_)))
  cases oi cA
  exact ey results3 ⟨cB,rfl,cD.s⟩
 refine j3 (qs ?_)
 have aB:=aA.drew
 refine wh1 (fun w'=>H0 cx w'∧B0 W [V3 y B C,V3 D G H] w'∧B0 X [V3 J O R,V3 S T U] w') (fun w'=>True) 8 [] mixed ⟨aB.hasK kr,aB.hasObj m0,aB.hasObj m1⟩ (fun _=>trivial) (gh (fun _ h=>A0 (ds:=[V3 y B C,V3 D G H]) B9 rfl rfl rfl h.2.1) (gh (fun _ h=>A0 (ds:=[V3 J O R,V3 S T U]) C4 rfl rfl rfl h.2.2) (gt (i5 rfl) (gh (fun _ h=>A0 (ds:=[V3 y B C,V3 D G H]) B9 rfl rfl rfl h.2.1) (gt (i5 rfl) (gn ?_))))))
 obtain⟨ft,cE,cF⟩:=ob bn
 refine lk c2P (a4y F aB.enter0 (ab.mono ((d.trans f.le).trans i)) (ac.mono ((d.trans f.le).trans i)) bH cE) ?_
 rintro fu fv ⟨fw,rfl,k,cG⟩
 have aC:=(aB.c0 k).t3
 refine i8 (qh ⟨aC.hasK k.le,aC.hasObj m0,aC.hasObj m1⟩ (fun _=>trivial) (gn ?_))
 obtain⟨fx,cH,cI⟩:=ob cF
 refine lk c59 (a60 F aC.enter0 (b7.mono (((d.trans f.le).trans i).trans k.le) ab) (b7.mono (((d.trans f.le).trans i).trans k.le) ac) (b7.mono (((d.trans f.le).trans i).trans k.le) V) (b7.mono (((d.trans f.le).trans i).trans k.le) ah) an cG cH) ?_
 rintro fy fz ⟨ap,aq,ar,bo,rfl,l,am⟩
 have aN:=(aC.c0 l).t4
 refine i8 (qh ⟨aN.hasK (k.le.trans l.le),aN.hasObj m1,aN.hasObj m2⟩ (fun _=>trivial) (gt (u9 rfl) (gd' (qr (lv (N2 rfl) (O7 (lv (N2 rfl) (nq ?_))))))))
 obtain⟨au,cJ,cK⟩:=ob cI
 refine l4 (IW w K [] bo [(3,pt W),(4,pt X),(5,sv s.2.2.1),(7,pt Y),(9,V3 ap aq ar),(10,V6 au)] [s7 W [V3 y B C,V3 D G H] 26,s7 X [V3 J O R,V3 S T U] 30,s7 Y [V6 2,sv s.2.2.1,V3 ad 1 1,V6 0,V6 0,V3 none 0 0] 35] (i7 au)) ?_ ?_
 ·refine j7 ?_
  obtain⟨fA,cL,cM⟩:=ob cJ
  have cN:=aN.sb (sd (sk (sk (sk sz))))
  refine qw (fun (aD:Int×Int)=>IW w K [] bo [(3,pt W),(4,pt X),(5,sv s.2.2.1),(7,pt Y),(9,V3 ap aq ar),(10,V6 aD.1),(11,V6 aD.2)] [s7 W [V3 y B C,V3 D G H] 26,s7 X [V3 J O R,V3 S T U] 30,s7 Y [V6 2,sv s.2.2.1,V3 ad 1 1,V6 0,V6 0,V3 none 0 0] 35] (i7 aD.1∧i7 aD.2)) cL ⟨bo,rfl,cN,kr,I5,I5⟩ ?_
  rintro aD _ fB fC cO cP ⟨cQ,rfl,aO,aa,cR,fD⟩
  refine o4 (sr (mv rfl (fl L3 rfl a1b m1 aO rfl (lv (q9 underlying27 rfl (b7.mono (((((d.trans f.le).trans i).trans k.le).trans l.le).trans aa) V)) (lv (u7 rfl rfl) (nq (D5 cO rfl (fun cS bp=>?_) (fun cS bp=>?_))))))))
  ·refine j3 (qs (j7 (D4 mixed (by kernel_rfl) aO (km rfl (kh (D8 (ds:=[V3 y B C,V3 D G H]) B9 rfl m0 rfl rfl) (kh (D8 (ds:=[V3 J O R,V3 S T U]) C4 rfl m1 rfl rfl) (km rfl (kv (c7 L3 rfl) (kh (z6 a1b rfl m1 rfl) ?_)))))))))
   refine km rfl ?_
   obtain⟨cT,cU,cV⟩:=ob bp
   refine ki underlying27 E8 (b7.mono (((((d.trans f.le).trans i).trans k.le).trans l.le).trans aa) V) cU fun cW cX fE cY cZ=>?_
   obtain⟨da,db,dc,dd,de,df,rfl,bL,fF,fG⟩:=cY
   have dg:F1 _ cW cX [V6 cT.Id,V3 da db dc,V3 dd de df]:=cZ
   refine kv (c7 P6 rfl) (kh (C1 E6 rfl (dg 0 _ rfl)) ?_)
   obtain⟨fH,bM,dh⟩:=ob cV
   refine kd b9T (fun _ _ di aP=>(U3 F) di.enter0 (b7.mono ((((((d.trans f.le).trans i).trans k.le).trans l.le).trans aa).trans aP) ab) (b7.mono ((((((d.trans f.le).trans i).trans k.le).trans l.le).trans aa).trans aP) ac) (b7.mono ((((((d.trans f.le).trans i).trans k.le).trans l.le).trans aa).trans aP) V) (b7.mono ((((((d.trans f.le).trans i).trans k.le).trans l.le).trans aa).trans aP) ah) an bL bM) ?_
   obtain⟨_,_,_,⟨_,_,_,fI⟩,_⟩:=(U3 F) aO.enter0 (b7.mono (((((d.trans f.le).trans i).trans k.le).trans l.le).trans aa) ab) (b7.mono (((((d.trans f.le).trans i).trans k.le).trans l.le).trans aa) ac) (b7.mono (((((d.trans f.le).trans i).trans k.le).trans l.le).trans aa) V) (b7.mono (((((d.trans f.le).trans i).trans k.le).trans l.le).trans aa) ah) an bL bM []
   refine kv (y7 rfl rfl) (kv (u9 rfl) (B4 ?_))
   rintro fJ ⟨dj,dk,dl⟩
   refine x8 (l5 (j5 (mv rfl (lv (y7 rfl rfl) (av rfl (i8 ?_))))))
   cases oi dh
   exact qd ⟨_,rfl,dj,rfl,dk,(aa.trans dl),(u0 _),(u0 _)⟩
  refine y4 (g8 (g8 ?_))
  cases oi bp
  cases cP _ rfl
  refine l6 ?_
  cases oi cM
  exact qd ⟨cQ,rfl,aO,aa,cR⟩
 rintro _ fK ⟨bq,rfl,dm,o,br⟩
 refine qr (lv (N2 rfl) (O7 (lv (N2 rfl) (nq ?_))))
 obtain⟨dn,dp,aw⟩:=ob cK
 refine l4 (fun E' w'=>∃aQ aR,dn= .inl aQ∧E'=[(9,V3 ap aq ar),(12,V6 aQ)]∧SH w K [] w' aR []∧M0 bq aR∧i7 aQ) ?_ ?_
 ·refine j7 ?_
  obtain⟨fL,dq,aS⟩:=ob dp
  refine qw (fun (ae:Int×Int)=>IW w K [] bq [(3,pt W),(4,pt X),(5,sv s.2.2.1),(7,pt Y),(9,V3 ap aq ar),(10,V6 au),(12,V6 ae.1),(13,V6 ae.2)] [s7 W [V3 y B C,V3 D G H] 26,s7 X [V3 J O R,V3 S T U] 30,s7 Y [V6 2,sv s.2.2.1,V3 ad 1 1,V6 0,V6 0,V3 none 0 0] 35] (i7 ae.1∧i7 ae.2)) dq ⟨bq,rfl,dm,kr,I5,I5⟩ ?_
  rintro ae _ fM fN dt aT ⟨du,rfl,ai,m,bN,fO⟩
  refine o4 (sr (mv rfl (fl L3 rfl a1b m1 ai rfl (lv (q9 underlying27 rfl (b7.mono ((((((d.trans f.le).trans i).trans k.le).trans l.le).trans o).trans m) V)) (lv (u7 rfl rfl) (nq (D5 dt rfl (fun dv bs=>?_) (fun dv bs=>?_))))))))
  ·refine j3 (qs (j7 (sr (fl L3 rfl a1b m1 ai rfl (mv rfl ?_)))))
   obtain⟨bO,dw,dx⟩:=ob bs
   refine li underlying27 E8 (b7.mono ((((((d.trans f.le).trans i).trans k.le).trans l.le).trans o).trans m) V) dw fun dy dz fP dA dB=>?_
   obtain⟨dC,dD,dE,dF,dG,dH,rfl,aU,fQ,fR⟩:=dA
   have dI:F1 _ dy dz [V6 bO.Id,V3 dC dD dE,V3 dF dG dH]:=dB
   refine fa P6 rfl (lv (y9 E6 rfl ai (dI 0 _ rfl)) (av rfl (nr (lv (j6 (ds:=[V3 y B C,V3 D G H]) B9 rfl m0 ai rfl rfl) (lv (j6 (ds:=[V3 J O R,V3 S T U]) C4 rfl m1 ai rfl rfl) (lv (j6 (ds:=[V6 2,sv s.2.2.1,V3 ad 1 1,V6 0,V6 0,V3 none 0 0]) B1 rfl m2 ai rfl rfl) (mv rfl ?_)))))))
   obtain⟨bP,dJ,dK⟩:=ob dx
   refine lk b6x ((P4 F (q2:=(q7.mk (2:Int) s.2.2.1 ([s.2.2.2]:List r4) (0:Int) (0:Int) ([]:List q7)))) ai.enter0 (b7.mono ((((((d.trans f.le).trans i).trans k.le).trans l.le).trans o).trans m) ab) (b7.mono ((((((d.trans f.le).trans i).trans k.le).trans l.le).trans o).trans m) ac) (b7.mono ((((((d.trans f.le).trans i).trans k.le).trans l.le).trans o).trans m) V) (b7.mono ((((((d.trans f.le).trans i).trans k.le).trans l.le).trans o).trans m) ah) (by decide :i7 2) an (b7.mono (((((f.le.trans i).trans k.le).trans l.le).trans o).trans m) bI) I5 I5 (b7.nil _ _) aU (hG6.keep ai) hD dJ) ?_
   rintro fS fT ⟨fU,rfl,q,fV⟩
   have aE:=(ai.c0 q).t3
   refine av rfl (O7 (mv rfl (lv (j6 (ds:=[V3 y B C,V3 D G H]) B9 rfl m0 aE rfl rfl) (lv (j6 (ds:=[V3 J O R,V3 S T U]) C4 rfl m1 aE rfl rfl) (lv (j6 (ds:=[V6 2,sv s.2.2.1,V3 ad 1 1,V6 0,V6 0,V3 none 0 0]) B1 rfl m2 aE rfl rfl) (mv rfl ?_))))))
   obtain⟨fW,dL,dM⟩:=ob dK
   refine lk c1E ((a0K F (q2:=(q7.mk (2:Int) s.2.2.1 ([s.2.2.2]:List r4) (0:Int) (0:Int) ([]:List q7)))) aE.enter0 (b7.mono (((((((d.trans f.le).trans i).trans k.le).trans l.le).trans o).trans m).trans q.le) ab) (b7.mono (((((((d.trans f.le).trans i).trans k.le).trans l.le).trans o).trans m).trans q.le) ac) (b7.mono (((((((d.trans f.le).trans i).trans k.le).trans l.le).trans o).trans m).trans q.le) V) (b7.mono (((((((d.trans f.le).trans i).trans k.le).trans l.le).trans o).trans m).trans q.le) ah) (by decide :i7 2) an (b7.mono ((((((f.le.trans i).trans k.le).trans l.le).trans o).trans m).trans q.le) bI) I5 I5 (b7.nil _ _) aU dL) ?_
   rintro fX fY ⟨aV,rfl,x,fZ⟩
   have aW:=(aE.c0 x).t3
   refine lv (R2 rfl rfl) (nq (D5 dM rfl (fun dN bu=>?_) (fun dN bu=>?_)))
   ·refine sr (lv (O6 rfl) (nq (rr (i9 (c9 (c9 ?_))))))
    cases oi bu
    cases aT _ rfl
    refine i9 (c9 ?_)
    cases oi aS
    refine c9 ?_
    cases oi aw
    exact ey results3 ⟨aV,rfl,aW.s⟩
   refine j3 (qs (o4 ?_))
   obtain⟨dO,dP,dQ⟩:=ob bu
   refine l4 (IV w K [] aV [(3,pt W),(4,pt X),(5,sv s.2.2.1),(7,pt Y),(9,V3 ap aq ar),(10,V6 au),(12,V6 ae.1),(13,V6 ae.2),(14,V6 bO.Id),(15,V6 bP),(112,.bool dO)] [s7 W [V3 y B C,V3 D G H] 26,s7 X [V3 J O R,V3 S T U] 30,s7 Y [V6 2,sv s.2.2.1,V3 ad 1 1,V6 0,V6 0,V3 none 0 0] 35]) ?_ ?_
   ·refine j5 (mv rfl (mv rfl (lv (q9 underlying37 rfl (b7.mono (((o.trans m).trans q.le).trans x.le) am)) (lv (a3B rfl rfl) (mv rfl (bt dP (fun af bv=>?_) (fun af bv=>?_)))))))
    ·iterate 7 refine lu af ?_
     refine lv (J6 rfl af rfl) (i8 ?_)
     cases oi bv
     exact qd ⟨aV,rfl,aW,kr⟩
    refine lg af (i5 rfl) (lg af (i5 rfl) ?_)
    obtain⟨dR,dS,dT⟩:=ob bv
    refine N1 (t:=S2) (wg rfl rfl af) rfl underlying37 a02 rfl rfl (b7.mono (((o.trans m).trans q.le).trans x.le) am) dS fun dU dV ga dW dX=>?_
    obtain⟨dY,dZ,ea,rfl,gb,gc⟩:=dW
    have eb:F1 _ dU dV [V6 dR.Doc,V3 dY dZ ea]:=dX
    refine lg af (c7 a5U rfl) (lg af (y9 E6 rfl aW (eb 0 _ rfl)) (lg af (i5 rfl) (lg af (R2 rfl rfl) (lv (l9 rfl af rfl) (i8 ?_)))))
    cases oi dT
    exact qd ⟨aV,rfl,aW,kr⟩
   rintro _ gd ⟨aX,rfl,bx,I⟩
   refine l5 (D5 dQ rfl (fun ec bz=>?_) (fun ec bz=>?_))
   ·refine o4 (sr (mv rfl (lv (R2 rfl rfl) (nq (D5 bz rfl (fun ed bA=>?_) (fun ed bA=>?_))))))
    ·refine sr (lv (O6 rfl) (nq (rr (c9 (i9 (c9 (c9 ?_)))))))
     cases oi bA
     cases aT _ rfl
     refine i9 (c9 ?_)
     cases oi aS
     refine c9 ?_
     cases oi aw
     exact ey results3 ⟨aX,rfl,bx.s⟩
    refine j3 (l5 (y4 (g8 (l6 (l5 (j5 (mv rfl (lv (y7 rfl rfl) (av rfl ?_)))))))))
    refine i8 ?_
    cases oi bA
    exact qd ⟨_,rfl,aX,rfl,bx,(((m.trans q.le).trans x.le).trans I),bN,(u0 _)⟩
   refine j3 (qs ?_)
   obtain⟨ak,ee,ef⟩:=ob bz
   refine l4 (fun E' w'=>∃bB aF,E'=[(3,pt W),(4,pt X),(5,sv s.2.2.1),(7,pt Y),(9,V3 ap aq ar),(10,V6 au),(12,V6 ae.1),(13,V6 ae.2),(15,V6 bP),(16,pt bB),(17,.bool ak.2)]∧SH w K [] w' aF [s7 bB [V6 ak.1.Up,V6 ak.1.Down] 50,s7 W [V3 y B C,V3 D G H] 26,s7 X [V3 J O R,V3 S T U] 30,s7 Y [V6 2,sv s.2.2.1,V3 ad 1 1,V6 0,V6 0,V3 none 0 0] 35]∧M0 aX aF∧i7 ak.1.Up∧i7 ak.1.Down) ?_ ?_
   ·obtain⟨eg,eh,ei⟩:=ob ee
    obtain⟨ge,bQ,ej⟩:=ob ei
    obtain⟨ax,bC,bD⟩:=ob ej
    have ay:=bx.drew
    refine j_0 (fun w'=>H0 aX w'∧B0 W [V3 y B C,V3 D G H] w'∧B0 X [V3 J O R,V3 S T U] w') 24 [] mixed ⟨ay.hasK kr,ay.hasObj m0,ay.hasObj m1⟩ (jv 0 rfl (i5 rfl) (jv 1 rfl (i5 rfl) (ji 2 rfl underlying37 a02 (b7.mono ((((o.trans m).trans q.le).trans x.le).trans I) am) eh fun ek el gg em en=>?_)))
    obtain⟨eo,ep,eq,rfl,gj,aY⟩:=em
    have es:F1 _ ek el [V6 eg.Doc,V3 eo ep eq]:=en
    refine jv 3 rfl (c7 a4M rfl) (jh 4 rfl (fun _ h=>a0Y a1g rfl (es 1 _ rfl) h.1) (jv 5 rfl (q9 underlying46 rfl aY) (jh 6 rfl (fun _ h=>A0 (ds:=[V3 y B C,V3 D G H]) B9 rfl rfl rfl h.2.1) (jh 7 rfl (fun _ h=>A0 (ds:=[V3 J O R,V3 S T U]) C4 rfl rfl rfl h.2.2) (jv 8 rfl (i5 rfl) (jv 9 rfl (i5 rfl) (jv 11 rfl (i5 rfl) (jv 12 rfl (c7 L3 rfl) (jh 13 rfl (fun _ h=>B5 a1b rfl rfl h.2.2) ?_)))))))))
    refine jv 14 rfl (q9 underlying27 rfl (b7.mono (((((((((d.trans f.le).trans i).trans k.le).trans l.le).trans o).trans m).trans q.le).trans x.le).trans I) V)) (jv 15 rfl (i5 rfl) (jv 16 rfl (q9 underlying37 rfl (b7.mono ((((o.trans m).trans q.le).trans x.le).trans I) am)) (j2 10 21 rfl rfl ?_ ?_)))
    ·refine lk b9T (U3 F ay.enter0 (b7.mono (((((((((d.trans f.le).trans i).trans k.le).trans l.le).trans o).trans m).trans q.le).trans x.le).trans I) ab) (b7.mono (((((((((d.trans f.le).trans i).trans k.le).trans l.le).trans o).trans m).trans q.le).trans x.le).trans I) ac) (b7.mono (((((((((d.trans f.le).trans i).trans k.le).trans l.le).trans o).trans m).trans q.le).trans x.le).trans I) V) (b7.mono (((((((((d.trans f.le).trans i).trans k.le).trans l.le).trans o).trans m).trans q.le).trans x.le).trans I) ah) an aU bQ) ?_
     rintro gk gl ⟨gm,rfl,aj,bR⟩
     have az:=(ay.c0 aj).t3
     refine P0 ⟨az.hasK aj.le,az.hasObj m0,az.hasObj m1⟩ (j2 17 21 rfl rfl ?_ ?_)
     ·refine lk b4z (M6 F az.enter0 aY.rn bR br (a0Z (b7.max (b7.mono (((((((((d.trans f.le).trans i).trans k.le).trans l.le).trans o).trans m).trans q.le).trans x.le).trans I) V))) (a0Z (b7.max (b7.mono ((((o.trans m).trans q.le).trans x.le).trans I) am))) bC) ?_
      rintro go gp ⟨et,rfl,aG,eu,ev⟩
      have aZ:=(az.c0 aG).t3
      refine P0 ⟨aZ.hasK (aj.le.trans aG.le),aZ.hasObj m0,aZ.hasObj m1⟩ (jv 18 rfl (i5 rfl) (jv 19 rfl (y3 rfl rfl) (jv 20 rfl (y3 rfl rfl) (j1 21 rfl (al V4 aZ fun bS gq ew=>?_)))))
      have ba:SH _ _ _ _ _ [s7 bS [V6 0,V6 0] 50,_,_,_]:=ew
      refine P0 ⟨ba.hasK (aj.le.trans aG.le),ba.hasObj m1,ba.hasObj m2⟩ (j1 22 rfl (lw [V6 ax.1.Up,V6 ax.1.Down] V4 ba fun gr bb=>(P0 ⟨bb.hasK (aj.le.trans aG.le),bb.hasObj m1,bb.hasObj m2⟩ (jv 23 rfl (u9 rfl) (jd ?_)))))
      cases oi bD
      exact qd ⟨bS,et,rfl,bb,(aj.le.trans aG.le),eu,ev⟩
     refine al V4 az fun bT gv ex=>?_
     have aH:SH _ _ _ _ _ [s7 bT [V6 0,V6 0] 50,_,_,_]:=ex
     refine P0 ⟨aH.hasK aj.le,aH.hasObj m1,aH.hasObj m2⟩ (j1 17 rfl (lk b4z (M6 F aH.enter0 aY.rn bR br (a0Z (b7.max (b7.mono (((((((((d.trans f.le).trans i).trans k.le).trans l.le).trans o).trans m).trans q.le).trans x.le).trans I) V))) (a0Z (b7.max (b7.mono ((((o.trans m).trans q.le).trans x.le).trans I) am))) bC) ?_))
     rintro gw gx ⟨eA,rfl,bc,eB,eC⟩
     have bd:=(aH.c0 bc).t4
     refine P0 ⟨bd.hasK (aj.le.trans bc.le),bd.hasObj m1,bd.hasObj m2⟩ (jv 18 rfl (i5 rfl) (jv 19 rfl (y3 rfl rfl) (jv 20 rfl (y3 rfl rfl) (j1 22 rfl (lw [V6 ax.1.Up,V6 ax.1.Down] V4 bd fun gy be=>(P0 ⟨be.hasK (aj.le.trans bc.le),be.hasObj m1,be.hasObj m2⟩ (jv 23 rfl (u9 rfl) (jd ?_))))))))
     cases oi bD
     exact qd ⟨bT,eA,rfl,be,(aj.le.trans bc.le),eB,eC⟩
    refine al V4 ay fun bU gz eD=>?_
    have aI:SH _ _ _ _ _ [s7 bU [V6 0,V6 0] 50,_,_,_]:=eD
    refine P0 ⟨aI.hasK kr,aI.hasObj m1,aI.hasObj m2⟩ (j1 10 rfl (lk b9T (U3 F aI.enter0 (b7.mono (((((((((d.trans f.le).trans i).trans k.le).trans l.le).trans o).trans m).trans q.le).trans x.le).trans I) ab) (b7.mono (((((((((d.trans f.le).trans i).trans k.le).trans l.le).trans o).trans m).trans q.le).trans x.le).trans I) ac) (b7.mono (((((((((d.trans f.le).trans i).trans k.le).trans l.le).trans o).trans m).trans q.le).trans x.le).trans I) V) (b7.mono (((((((((d.trans f.le).trans i).trans k.le).trans l.le).trans o).trans m).trans q.le).trans x.le).trans I) ah) an aU bQ) ?_))
    rintro gA gB ⟨gC,rfl,aJ,eE⟩
    have aK:=(aI.c0 aJ).t4
    refine P0 ⟨aK.hasK aJ.le,aK.hasObj m1,aK.hasObj m2⟩ (j1 17 rfl (lk b4z (M6 F aK.enter0 aY.rn eE br (a0Z (b7.max (b7.mono (((((((((d.trans f.le).trans i).trans k.le).trans l.le).trans o).trans m).trans q.le).trans x.le).trans I) V))) (a0Z (b7.max (b7.mono ((((o.trans m).trans q.le).trans x.le).trans I) am))) bC) ?_))
    rintro gD gE ⟨eF,rfl,bf,eG,eH⟩
    have bg:=(aK.c0 bf).t4
    refine P0 ⟨bg.hasK (aJ.le.trans bf.le),bg.hasObj m1,bg.hasObj m2⟩ (jv 18 rfl (i5 rfl) (jv 19 rfl (y3 rfl rfl) (jv 20 rfl (y3 rfl rfl) (j1 22 rfl (lw [V6 ax.1.Up,V6 ax.1.Down] V4 bg fun gF bh=>(P0 ⟨bh.hasK (aJ.le.trans bf.le),bh.hasObj m1,bh.hasObj m2⟩ (jv 23 rfl (u9 rfl) (jd ?_))))))))
    cases oi bD
    exact qd ⟨bU,eF,rfl,bh,(aJ.le.trans bf.le),eG,eH⟩
   rintro _ gG ⟨bB,aF,rfl,bi,eI,eJ,eK⟩
   refine qr (mv rfl (lv (y7 rfl rfl) (av rfl (ns ?_))))
   obtain⟨eL,eM,eN⟩:=ob ef
   refine l4 (IV w K [] aF [(3,pt W),(4,pt X),(5,sv s.2.2.1),(7,pt Y),(9,V3 ap aq ar),(10,V6 au),(12,V6 (z8 (ae.1+(1:Int)))),(13,V6 ae.2),(144,.bool eL)] [s7 W [V3 y B C,V3 D G H] 26,s7 X [V3 J O R,V3 S T U] 30,s7 Y [V6 2,sv s.2.2.1,V3 ad 1 1,V6 0,V6 0,V3 none 0 0] 35]) ?_ ?_
   ·refine j5 (mv rfl (mv rfl (bt eM (fun ag bE=>?_) (fun ag bE=>?_))))
    ·refine lg ag (i5 rfl) (lg ag (j6 (ds:=[V6 ak.1.Up,V6 ak.1.Down]) V4 rfl m0 bi rfl rfl) ?_)
     obtain⟨gH,eO,eP⟩:=ob bE
     refine A3 (wg rfl rfl ag) rfl (A2 (vs:=[.agg #[V6 ak.1.Up,V6 ak.1.Down],V6 1000]) c4u rfl) (a4T F bi.enter0 eJ eK (by decide :i7 1000) eO) ?_
     rintro gI gJ ⟨eQ,rfl,bV,gK⟩
     refine⟨_,rfl,?_⟩
     have eR:=(bi.c0 bV).t4
     refine lg ag (R2 rfl rfl) (lv (n9 rfl ag rfl) (i8 ?_))
     cases oi eP
     exact qd ⟨eQ,rfl,eR.s,bV.le⟩
    refine lu ag (lu ag (lu ag (lu ag (lv (L8 rfl ag rfl) (i8 ?_)))))
    cases oi bE
    exact qd ⟨aF,rfl,bi.s,kr⟩
   rintro _ gL ⟨bW,rfl,bX,eS⟩
   refine l5 (D5 eN rfl (fun eT bF=>?_) (fun eT bF=>?_))
   ·refine sr (lv (O6 rfl) (nq (j9 (i9 (c9 (c9 ?_))))))
    cases oi bF
    cases aT _ rfl
    refine i9 (c9 ?_)
    cases oi aS
    refine c9 ?_
    cases oi aw
    exact ey results3 ⟨bW,rfl,bX.s⟩
   refine j3 (x8 (l5 (j5 (mv rfl (lv (y7 rfl rfl) (av rfl (i8 ?_)))))))
   cases oi bF
   exact qd ⟨_,rfl,bW,rfl,bX,(((((m.trans q.le).trans x.le).trans I).trans eI).trans eS),(u0 _),(u0 _)⟩
  refine y4 (g8 (g8 ?_))
  cases oi bs
  cases aT _ rfl
  refine l6 ?_
  cases oi aS
  exact qd ⟨_,du,rfl,rfl,ai.s,m,bN⟩
 rintro _ gM ⟨aQ,aR,rfl,rfl,eU,eV,gN⟩
 have aw:=E9 aw
 refine qr (mv rfl (mv rfl (lv (q9 underlying37 rfl (am.mono (o.trans eV))) (lv (A9 rfl rfl) (av rfl (nq (j9 ?_)))))))
 cases oi aw
 exact ey results3 ⟨aR,rfl,eU⟩
end Go.Proofs.YtnloenhmkdpgeaaGreatDoor
