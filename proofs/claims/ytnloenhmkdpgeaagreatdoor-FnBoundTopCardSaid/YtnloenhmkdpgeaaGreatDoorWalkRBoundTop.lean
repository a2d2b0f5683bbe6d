/-
 Walks of the functions. Printed by gen.py.
-/
import Derived.Test.YtnloenhmkdpgeaaGreatDoorModelLBoundTop
import Derived.Test.YtnloenhmkdpgeaaGreatDoorWalkA0
import Derived.Test.YtnloenhmkdpgeaaGreatDoorWalkA1
import Derived.Test.YtnloenhmkdpgeaaGreatDoorWalkA2
import Derived.Test.YtnloenhmkdpgeaaGreatDoorWalkA3
import Derived.Test.YtnloenhmkdpgeaaGreatDoorWalkA4
import Derived.Test.YtnloenhmkdpgeaaGreatDoorWalkA5
import Derived.Test.YtnloenhmkdpgeaaGreatDoorWalkA6
import Derived.Test.YtnloenhmkdpgeaaGreatDoorWalkA7
set_option linter.unusedVariables false
set_option linter.unusedSectionVars false
set_option maxRecDepth 100000
namespace Go.Proofs.YtnloenhmkdpgeaaGreatDoor
set_option maxHeartbeats 4000000
open Go Go.Fk Go.RowKit Tryz
variable (F:Nat){w:World}{K:F9}{Z:List Nat}{g1 g2 g3:Nat}{A B C D G H I J O R S T:Option Addr}{a b c d f i k l m n o p q s v x y aa ab ac ad ae af ag:Nat}
variable [dr:Dr]

theorem a4X {r:(List r4)}(hS:SH w K [] w K [])(hm:a0I F=some r):
  Calls prog 78 #[] w fun e w'=>∃a_1 n_2 c_3 K',e= .returned (V3 a_1 n_2 c_3)∧SH w K [] w' K' [tail (V3 a_1 n_2 c_3) 9 1]∧b7 D9 K' a_1 n_2 c_3 r:=by
 rw [a0I] at hm
 refine ci func78 rfl ntmps78 (sr (lv (r_n rfl) (nr (bw [[99,97,116],[99,97,116,115],[100,111,103],[100,111,103,115],[114,117,110],[114,117,110,110,105,110,103],[116,104,101],[114,101,100],[98,105,103],[110,101,119],[121,111,114,107],[110,121],[102,111,120]] underlying23 G7 hS fun a f b i c d=>(av rfl (nq (j9 ?_)))))))
 cases oi hm
 exact ey results78 ⟨a,13,13,b,rfl,d,c⟩

theorem a4z {q0:z7}{q1:List Int}{r:Int×z7}(hS:SH w K Z w K [s7 g1 [V3 A a b,V6 q0.p_] 141])(l:b7 tU8 K A a b q0.b_)(m:i7 q0.p_)(f:b7 D6 K B c d q1)(hm:V0 F q0 q1=some r):
  Calls prog 79 #[.pointer (some ⟨g1,0,none⟩),V3 B c d] w fun e w'=>∃a_2 n_3 c_4 K',e= .returned (V6 r.1)∧SH w K Z w' K' [s7 g1 [V3 a_2 n_3 c_4,V6 r.2.p_] 141]∧i7 r.1∧b7 tU8 K' a_2 n_3 c_4 r.2.b_∧i7 r.2.p_:=by
 rw [V0] at hm
 refine ci func79 rfl ntmps79 (sr (lv (N2 rfl) (nr (mv rfl (mv rfl (mv rfl (lv (q9 underlying46 rfl f) ?_)))))))
 obtain⟨W,o,q⟩:=ob hm
 refine lk a4r (A6 F hS.e1 l m f.rn o) ?_
 rintro X Y ⟨s,x,y,C,rfl,i,aa,D,G⟩
 have k:=(hS.c1 i).t1
 obtain⟨H,I,J⟩:=ob q
 refine li underlying46 E6 (f.mono i.le) I fun O R ab S T=>?_
 obtain⟨rfl,U⟩:=S
 have V:F1 _ O R [V6 H]:=T
 refine lv (y9 E6 rfl k (V 0 _ rfl)) (av rfl (nq (j9 ?_)))
 cases oi J
 exact ey results79 ⟨s,x,y,C,rfl,k,U,D,G⟩

theorem b90 {q0:List UInt8}{r:u6×A5×r4×(List r4)×Int}(hS:SH w K [] w K [])(bh:b7 tU8 K A a b q0)(hm:p8 F q0=some r):
  Calls prog 25 #[V3 A a b] w fun e w'=>∃a_1 n_2 c_3 a_5 n_6 c_7 a_9 n_10 c_11 a_13 n_14 c_15 a_18 n_19 c_20 K',e= .returned (.tuple #[.agg #[V3 a_1 n_2 c_3,V3 a_5 n_6 c_7],.agg #[V3 a_9 n_10 c_11,V3 a_13 n_14 c_15],sv r.2.2.1,V3 a_18 n_19 c_20,V6 r.2.2.2.2])∧SH w K [] w' K' [tail (V3 a_1 n_2 c_3) 9 1,tail (V3 a_5 n_6 c_7) 144 2,tail (V3 a_13 n_14 c_15) 99 3,tail (V3 a_18 n_19 c_20) 9 1]∧b7 D9 K' a_1 n_2 c_3 r.1.Stops∧b7 L0 K' a_5 n_6 c_7 r.1.Syns∧b7 F6 K' a_9 n_10 c_11 r.2.1.Docs∧b7 B8 K' a_13 n_14 c_15 r.2.1.Entries∧r.2.2.1.length≤maxLen∧b7 D9 K' a_18 n_19 c_20 r.2.2.2.1∧i7 r.2.2.2.2:=by
 rw [p8] at hm
 refine ci func25 rfl ntmps25 (sr (al B9 hS fun g5 w6 bi=>?_))
 have bj:SH _ _ _ _ _ [s7 g5 [V3 none 0 0,V3 none 0 0] 26]:=bi
 refine al C4 bj fun g9 cV bk=>?_
 have aL:SH _ _ _ _ _ [s7 g9 [V3 none 0 0,V3 none 0 0] 30,_]:=bk
 refine lv (r_s rfl) (lv (r_n rfl) (lv (N2 rfl) (nr (mv rfl ?_))))
 obtain⟨cW,bl,bm⟩:=ob hm
 refine lk c1H (a2k F aL.enter0 bh bl) ?_
 rintro cX cY ⟨am,cZ,da,db,dc,rfl,bn,bo,bp⟩
 have aM:=(aL.c0 bn).t3
 refine av rfl (nr (mv rfl ?_))
 obtain⟨dd,bq,br⟩:=ob bm
 refine lk c2Q (a2A F aM.e1 bo bp bq) ?_
 rintro de df ⟨d,f,i,k,l,m,x,y,B,o,q,s,dg,dh,di,dj,rfl,bs,aN,aO,aP,aQ,bu,bv⟩
 have bx:=(aM.c1 bs).t6
 refine mv rfl (lv (y3 rfl rfl) (lv (y3 rfl rfl) (al B9 bx fun U dk bz=>?_)))
 have bA:SH _ _ _ _ _ [s7 U [V3 none 0 0,V3 none 0 0] 26,_,_,_,_,_,_]:=bz
 refine al C4 bA fun V dl bB=>?_
 have bC:SH _ _ _ _ _ [s7 V [V3 none 0 0,V3 none 0 0] 30,_,_,_,_,_,_,_]:=bB
 refine lw [V3 d f i,V3 k l m] B9 bC.f1 fun dm bD=>(lw [V3 x y B,V3 o q s] C4 bD.f1 fun dn bE=>(nr (b0 D9 underlying23 G7 bE fun bF dp dq J bG bH=>(av rfl (O7 (mv rfl ?_))))))
 obtain⟨dr,bI,bJ⟩:=ob br
 have aR:=bH.f6
 refine lk a4r (A6 F aR.e1 (bu.mono J) bv (by decide :i7 5) bI) ?_
 rintro dt du ⟨bK,bL,bM,aC,rfl,H,bN,bO,bP⟩
 have bQ:=(aR.c1 H).t9
 refine av rfl (nq ?_)
 obtain⟨an,bR,bS⟩:=ob bJ
 refine l4 (fun E' w'=>∃W X Y aD aE aF aa,E'=[(2,pt g5),(3,pt g9),(7,pt am),(8,pt U),(9,pt V),(10,V3 W X Y)]∧SH w K [] w' aa [s7 g5 [V3 none 0 0,V3 none 0 0] 26,s7 g9 [V3 none 0 0,V3 none 0 0] 30,s7 am [V3 aD aE aF,V6 an.2.p_] 141,s7 U [V3 d f i,V3 k l m] 26,tail (V3 d f i) 9 1,tail (V3 k l m) 144 2,s7 V [V3 x y B,V3 o q s] 30,tail (V3 o q s) 99 3,tail (V3 W X Y) 9 1]∧M0 aC aa∧b7 D9 aa W X Y an.1∧b7 tU8 aa aD aE aF an.2.b_∧i7 an.2.p_) ?_ ?_
 ·refine j7 ?_
  obtain⟨dv,bT,bU⟩:=ob bR
  refine qw (fun (T:(List r4)×Int×z7) E' w'=>∃ag ah ai ao ap aq ab,E'=[(2,pt g5),(3,pt g9),(7,pt am),(8,pt U),(9,pt V),(10,V3 ag ah ai),(11,V6 T.2.1)]∧SH w K [] w' ab [s7 g5 [V3 none 0 0,V3 none 0 0] 26,s7 g9 [V3 none 0 0,V3 none 0 0] 30,s7 am [V3 ao ap aq,V6 T.2.2.p_] 141,s7 U [V3 d f i,V3 k l m] 26,tail (V3 d f i) 9 1,tail (V3 k l m) 144 2,s7 V [V3 x y B,V3 o q s] 30,tail (V3 o q s) 99 3,tail (V3 ag ah ai) 9 1]∧M0 aC ab∧b7 D9 ab ag ah ai T.1∧i7 T.2.1∧b7 tU8 ab ao ap aq T.2.2.b_∧i7 T.2.2.p_) bT ⟨bF,0,0,bK,bL,bM,aC,rfl,bQ.f1.f6.f3.f6.f6.f6.f6.f7.f8,kr,(bG.mono H.le),bN,bO,bP⟩ ?_
  rintro T _ dw dx bV bW ⟨ag,ah,ai,ao,ap,aq,ab,rfl,aG,aS,aT,dy,aU,aV⟩
  refine o4 (sr (mv rfl (lv (E7 rfl rfl) (nq (D5 bV rfl (fun bX aH=>?_) (fun bX aH=>?_))))))
  ·refine j3 (qs (j7 (j5 (mv rfl (mv rfl ?_)))))
   obtain⟨dz,bY,bZ⟩:=ob aH
   refine lk c4y (a4X F aG.enter0 bY) ?_
   rintro dA dB ⟨dC,dD,dE,dF,rfl,ar,ca⟩
   have cb:=(aG.c0 ar).t10
   obtain⟨aI,cc,cd⟩:=ob bZ
   have aW:=cb.f3
   refine lk b2o (J4 F aW.e1 (aU.mono ar.le) aV ca cc) ?_
   rintro dG dH ⟨ce,cf,cg,dI,rfl,aJ,ch,cj,ck⟩
   have cl:=(aW.c1 aJ).t10
   refine lb D9 (sv aI.1) [sv aI.1] aI.1 underlying23 G7 ⟨rfl,ch⟩ cl fun dJ dK dL aK cm cn=>?_
   have cp:SH _ _ _ _ _ [_,_,_,_,_,_,_,_,_,_,_]:=SH.front (p:=[_,_,_,_,_,_,_,_,_,_]) cn
   obtain⟨dM,cq,cr⟩:=ob cd
   refine lp underlying23 G7 (aT.mono ((ar.le.trans aJ.le).trans aK)) cm cq cp fun ct cu cv dN cw aX cx cy=>(av rfl (nb (l5 (j5 (mv rfl (lv (I6 rfl rfl) (av rfl (i8 ?_))))))))
   cases oi cr
   have cz:SH _ _ _ _ _ [_,_,_,_,_,_,_,_,_,_,_]:=SH.front (p:=[_,_,_,_,_,_,_,_,_,_]) cy
   have cA:SH _ _ _ _ _ [_,_,_,_,_,_,_,_,_,_,_]:=SH.front (p:=[_,_,_,_,_,_,_,_,_,_]) cz
   have cB:SH _ _ _ _ _ [_,_,_,_,_,_,_,_,_,_,_]:=SH.front (p:=[_,_,_,_,_,_,_,_,_,_]) cA
   have cC:SH _ _ _ _ _ [_,_,_,_,_,_,_,_,_,_,_]:=SH.front (p:=[_,_,_,_,_,_,_,_,_,_]) cB
   have cD:SH _ _ _ _ _ [_,_,_,_,_,_,_,_,_,_,_]:=SH.front (p:=[_,_,_,_,_,_,_,_,_,_]) cC
   have cE:SH _ _ _ _ _ [_,_,_,_,_,_,_,_,_,_,_]:=SH.front (p:=[_,_,_,_,_,_,_,_,_,_]) cD.f7
   have cF:SH _ _ _ _ _ [_,_,_,_,_,_,_,_,_,_,_]:=SH.front (p:=[_,_,_,_,_,_,_,_,_,_]) cE
   exact qd ⟨_,rfl,ct,cu,cv,ce,cf,cg,cw,rfl,cF.s,((((aS.trans ar.le).trans aJ.le).trans aK).trans aX),cx,(u0 _),(cj.mono (aK.trans aX)),ck⟩
  refine y4 (g8 (g8 ?_))
  cases oi aH
  cases bW _ rfl
  refine l6 ?_
  cases oi bU
  exact qd ⟨ag,ah,ai,ao,ap,aq,ab,rfl,aG,aS,aT,aU,aV⟩
 rintro _ dO ⟨W,X,Y,aD,aE,aF,aa,rfl,cG,S,aY,aZ,ba⟩
 refine qs ?_
 obtain⟨dP,bb,cH⟩:=ob bS
 obtain⟨dQ,bc,bd⟩:=ob cH
 have aj:=cG.drew
 refine j_0 (fun w'=>H0 aa w'∧B0 U [V3 d f i,V3 k l m] w'∧B0 V [V3 x y B,V3 o q s] w') 13 [] mixed ⟨aj.hasK kr,aj.hasObj m3,aj.hasObj m6⟩ (jh 0 rfl (fun _ h=>A0 (ds:=[V3 d f i,V3 k l m]) B9 rfl rfl rfl h.2.1) (jh 1 rfl (fun _ h=>A0 (ds:=[V3 x y B,V3 o q s]) C4 rfl rfl rfl h.2.2) (jv 2 rfl (i5 rfl) (jv 4 rfl (i5 rfl) (jv 5 rfl (i5 rfl) (j2 3 6 rfl rfl ?_ ?_))))))
 ·have be:=aj.f2
  refine lk c6z (a62 F be.e1 aZ ba bb) ?_
  rintro dR dS ⟨dT,dU,dV,dW,rfl,C,cI,cJ,cK⟩
  have au:=(be.c1 C).t9
  refine P0 ⟨au.hasK C.le,au.hasObj m3,au.hasObj m6⟩ (j1 6 rfl (J2 (t:=D6) (n:=6) (pv:=[(0,V6 1),(1,V6 1),(2,V6 2),(3,V6 3),(4,V6 16),(5,V6 0)]) (cs:=[V6 1,V6 1,V6 2,V6 3,V6 16,V6 0]) (xs:=[(1:Int),(1:Int),(2:Int),(3:Int),(16:Int),(0:Int)]) wn rfl underlying46 E6 rfl rfl rfl (by kernel_rfl) rfl rfl (H5 (u:=V6 1) (z:=(1:Int)) ⟨rfl,(by decide :i7 1)⟩ (H5 (u:=V6 1) (z:=(1:Int)) ⟨rfl,(by decide :i7 1)⟩ (H5 (u:=V6 2) (z:=(2:Int)) ⟨rfl,(by decide :i7 2)⟩ (H5 (u:=V6 3) (z:=(3:Int)) ⟨rfl,(by decide :i7 3)⟩ (H5 (u:=V6 16) (z:=(16:Int)) ⟨rfl,(by decide :i7 16)⟩ (H5 (u:=V6 0) (z:=(0:Int)) ⟨rfl,I5⟩ a1W)))))) au fun dX dY dZ I cL aw=>(P0 ⟨aw.hasK (C.le.trans I),aw.hasObj m4,aw.hasObj m7⟩ (j1 7 rfl ?_))))
  have bf:=aw.f1
  refine lk c4z (a4z F bf.e1 (cJ.mono I) cK cL bc) ?_
  rintro ea eb ⟨ec,ed,ee,cM,rfl,O,cN,ef,eg⟩
  have ax:=(bf.c1 O).t10
  refine P0 ⟨ax.hasK ((C.le.trans I).trans O.le),ax.hasObj m4,ax.hasObj m7⟩ (j1 8 rfl (lw [V3 d f i,V3 k l m] B9 ax.f2 fun eh ay=>(P0 ⟨ay.hasK ((C.le.trans I).trans O.le),ay.hasObj m4,ay.hasObj m7⟩ (j1 9 rfl (lw [V3 x y B,V3 o q s] C4 ay.f3 fun ei ac=>(P0 ⟨ac.hasK ((C.le.trans I).trans O.le),ac.hasObj m4,ac.hasObj m7⟩ (jv 10 rfl (u9 rfl) (jv 11 rfl (u9 rfl) (jv 12 rfl (u9 rfl) ?_)))))))))
  refine jd (l5 (j9 ?_))
  cases oi bd
  exact S7 (vs:=[_,_,_,_,_]) results25 ⟨⟨_,_,rfl,B2 B9 (cs:=[V3 d f i,V3 k l m]) (fun j c e=>by rw [Nat.zero_add,ac.mem_obj m1];exact e) (.inl ⟨rfl,rfl,rfl⟩)⟩,⟨_,_,rfl,B2 C4 (cs:=[V3 x y B,V3 o q s]) (fun j c e=>by rw [Nat.zero_add,ac.mem_obj m0];exact e) (.inl ⟨rfl,rfl,rfl⟩)⟩,rfl,rfl,rfl,trivial⟩ ⟨d,f,i,k,l,m,x,y,B,o,q,s,W,X,Y,cM,rfl,ac.s,(b7.mono (((((J.trans H.le).trans S).trans C.le).trans I).trans O.le) aN),(b7.mono (((((J.trans H.le).trans S).trans C.le).trans I).trans O.le) aO),(b7.mono (((((J.trans H.le).trans S).trans C.le).trans I).trans O.le) aP),(b7.mono (((((J.trans H.le).trans S).trans C.le).trans I).trans O.le) aQ),cI,(aY.mono ((C.le.trans I).trans O.le)),cN⟩
 refine J2 (t:=D6) (n:=6) (pv:=[(0,V6 1),(1,V6 1),(2,V6 2),(3,V6 3),(4,V6 16),(5,V6 0)]) (cs:=[V6 1,V6 1,V6 2,V6 3,V6 16,V6 0]) (xs:=[(1:Int),(1:Int),(2:Int),(3:Int),(16:Int),(0:Int)]) wn rfl underlying46 E6 rfl rfl rfl (by kernel_rfl) rfl rfl (H5 (u:=V6 1) (z:=(1:Int)) ⟨rfl,(by decide :i7 1)⟩ (H5 (u:=V6 1) (z:=(1:Int)) ⟨rfl,(by decide :i7 1)⟩ (H5 (u:=V6 2) (z:=(2:Int)) ⟨rfl,(by decide :i7 2)⟩ (H5 (u:=V6 3) (z:=(3:Int)) ⟨rfl,(by decide :i7 3)⟩ (H5 (u:=V6 16) (z:=(16:Int)) ⟨rfl,(by decide :i7 16)⟩ (H5 (u:=V6 0) (z:=(0:Int)) ⟨rfl,I5⟩ a1W)))))) aj fun ej ek el D cO az=>(P0 ⟨az.hasK D,az.hasObj m4,az.hasObj m7⟩ (j1 3 rfl ?_))
 have bg:=az.f3
 refine lk c6z (a62 F bg.e1 (aZ.mono D) ba bb) ?_
 rintro em en ⟨eo,ep,eq,es,rfl,G,cP,cQ,cR⟩
 have ak:=(bg.c1 G).t10
 refine P0 ⟨ak.hasK (D.trans G.le),ak.hasObj m4,ak.hasObj m7⟩ (j1 7 rfl (lk c4z (a4z F ak.e1 cQ cR (cO.mono G.le) bc) ?_))
 rintro et eu ⟨ev,ew,ex,cS,rfl,R,cT,eA,eB⟩
 have aA:=(ak.c1 R).t10
 refine P0 ⟨aA.hasK ((D.trans G.le).trans R.le),aA.hasObj m4,aA.hasObj m7⟩ (j1 8 rfl (lw [V3 d f i,V3 k l m] B9 aA.f2 fun eC aB=>(P0 ⟨aB.hasK ((D.trans G.le).trans R.le),aB.hasObj m4,aB.hasObj m7⟩ (j1 9 rfl (lw [V3 x y B,V3 o q s] C4 aB.f3 fun eD ad=>(P0 ⟨ad.hasK ((D.trans G.le).trans R.le),ad.hasObj m4,ad.hasObj m7⟩ (jv 10 rfl (u9 rfl) (jv 11 rfl (u9 rfl) (jv 12 rfl (u9 rfl) ?_)))))))))
 refine jd (l5 (j9 ?_))
 cases oi bd
 exact S7 (vs:=[_,_,_,_,_]) results25 ⟨⟨_,_,rfl,B2 B9 (cs:=[V3 d f i,V3 k l m]) (fun j c e=>by rw [Nat.zero_add,ad.mem_obj m1];exact e) (.inl ⟨rfl,rfl,rfl⟩)⟩,⟨_,_,rfl,B2 C4 (cs:=[V3 x y B,V3 o q s]) (fun j c e=>by rw [Nat.zero_add,ad.mem_obj m0];exact e) (.inl ⟨rfl,rfl,rfl⟩)⟩,rfl,rfl,rfl,trivial⟩ ⟨d,f,i,k,l,m,x,y,B,o,q,s,W,X,Y,cS,rfl,ad.s,(b7.mono (((((J.trans H.le).trans S).trans D).trans G.le).trans R.le) aN),(b7.mono (((((J.trans H.le).trans S).trans D).trans G.le).trans R.le) aO),(b7.mono (((((J.trans H.le).trans S).trans D).trans G.le).trans R.le) aP),(b7.mono (((((J.trans H.le).trans S).trans D).trans G.le).trans R.le) aQ),cP,(aY.mono ((D.trans G.le).trans R.le)),cT⟩

theorem b9K {q0:T0}{q1:r4}{q2:r4}{r:(List g6)}(hS:SH w K Z w K [s7 g1 [V3 A a b,V3 B c d,V3 C f i,V3 D k l] 113])(aw:b7 D9 K A a b q0.c_.Stops)(ax:b7 L0 K B c d q0.c_.Syns)(ay:b7 F6 K C f i q0.s_.Docs)(az:b7 B8 K D k l q0.s_.Entries)(aA:q1.length≤maxLen)(aB:q2.length≤maxLen)(hm:m9 F q0 q1 q2=some r):
  Calls prog 81 #[.pointer (some ⟨g1,0,none⟩),sv q1,sv q2] w fun e w'=>∃a_1 n_2 c_3 K',e= .returned (V3 a_1 n_2 c_3)∧SH w K Z w' K' [tail (V3 a_1 n_2 c_3) 171 2,s7 g1 [V3 A a b,V3 B c d,V3 C f i,V3 D k l] 113]∧b7 m8 K' a_1 n_2 c_3 r:=by
 rw [m9] at hm
 refine ci func81 rfl ntmps81 (sr (lv (r_n rfl) (nr (b86 m8 wn rfl underlying123 a6L hS fun aN bU aO=>(av rfl (O7 (mv rfl (lv (B7 rfl) (fa a6n rfl ?_)))))))))
 refine mv rfl (mv rfl ?_)
 obtain⟨aC,aP,aQ⟩:=ob hm
 have aD:=aO.f1
 refine lk c1I (Q4 F aD.e1 aw ax ay az aA aB aP) ?_
 rintro bV bW ⟨aE,aF,aG,am,rfl,I,an⟩
 have aR:=(aD.c1 I).t2
 refine lv (q9 underlying37 rfl an) (lv (r_m rfl) (nq ?_))
 obtain⟨aH,aS,aT⟩:=ob aQ
 refine l4 (fun E' w'=>∃X J Y cs46 aa,E'=[(0,pt g1),(7,V3 X J Y)]∧SH w K Z w' aa [s7 g1 [V3 A a b,V3 B c d,V3 C f i,V3 D k l] 113,Z5 (V3 X J Y) cs46 171 2]∧M0 am aa∧E1 true m8 aa cs46 aH∧J=aH.length) ?_ ?_
 ·refine j7 ?_
  obtain⟨bX,aU,aV⟩:=ob aS
  refine qF (fun (ao:Nat) (ab:(List g6)) E' w'=>∃G y H cs61 s,E'=[(0,pt g1),(1,sv q1),(2,sv q2),(7,V3 G y H),(17,V3 aE aF aG),(18,V6 (aC.length:Int)),(19,V6 ((ao:Nat):Int))]∧SH w K Z w' s [s7 g1 [V3 A a b,V3 B c d,V3 C f i,V3 D k l] 113,Z5 (V3 G y H) cs61 171 2]∧M0 am s∧E1 true m8 s cs61 ab∧y=ab.length) aU ⟨aN,0,0,[],am,rfl,aR,kr,(E1.nil m8 _),rfl⟩ ?_ ?_
  ·rintro ao ab _ aW bY hi65 aX ⟨G,y,H,cs61,s,rfl,ac,x,hrow62,hm63⟩
   refine sr (lv (u7 rfl rfl) (ns (C9 rfl (b8 (by omega)) (j3 (l5 (o4 (j7 (sr (mv rfl ?_)))))))))
   obtain⟨m,aY,aZ⟩:=ob aX
   refine li underlying37 a02 (an.mono x) aY fun ba bb bZ bc bd=>?_
   obtain⟨ad,ae,af,rfl,aI,ca⟩:=bc
   have be:F1 _ ba bb [V6 m.Doc,V3 ad ae af]:=bd
   refine lv (F3 a02 rfl ac be rfl) (al a02 ac fun ag cb bf=>?_)
   have bg:SH _ _ _ _ _ [s7 ag [V6 0,V3 none 0 0] 48,_,_]:=bf
   refine av rfl (lw [V6 m.Doc,V3 ad ae af] a02 bg fun cc aJ=>(O7 (mv rfl ?_)))
   obtain⟨cd,bh,bi⟩:=ob aZ
   refine lv (a8J rfl rfl bh) (lv (A9 rfl rfl) (nq ?_))
   obtain⟨O,bj,bk⟩:=ob bi
   refine l4 (fun E' w'=>∃R S ah cs101 T,E'=[(0,pt g1),(1,sv q1),(2,sv q2),(7,V3 R S ah),(9,pt ag),(17,V3 aE aF aG),(18,V6 (aC.length:Int)),(19,V6 ((ao:Nat):Int))]∧SH w K Z w' T [s7 g1 [V3 A a b,V3 B c d,V3 C f i,V3 D k l] 113,s7 ag [V6 m.Doc,V3 ad ae af] 48,Z5 (V3 R S ah) cs101 171 2]∧M0 s T∧E1 true m8 T cs101 O∧S=O.length) ?_ ?_
   ·refine D5 bj rfl (fun bl ap=>?_) (fun bl ap=>?_)
    ·refine j5 (mv rfl (lv (C3 (cs:=#[V6 0,V6 0]) c9a a6L rfl (by kernel_rfl)) (lb m8 (.agg #[V6 0,V6 0]) [V6 0,V6 0] (g6.mk (0:Int) (0:Int)) underlying123 a6L ⟨rfl,I5,I5⟩ aJ fun ce cf bm aK bn bo=>?_)))
     obtain⟨cg,bp,bq⟩:=ob ap
     refine b4s (t:=m8) wn rfl underlying123 a6L rfl rfl rfl rfl (E1.mono aK hrow62) hm63 bn bp bo.f3 fun br bs bu cs119 ch hrow121 hm122 bv=>(av rfl (i8 ?_))
     cases oi bq
     exact qd ⟨br,bs,bu,cs119,bm,rfl,bv.f2.f3.s,aK,hrow121,hm122⟩
    refine j3 ?_
    cases oi ap
    exact qd ⟨G,y,H,cs61,s,rfl,aJ.f2.f1.f2,kr,hrow62,hm63⟩
   rintro _ cj ⟨R,S,ah,cs101,T,rfl,aq,U,hrow102,hm103⟩
   refine qr (mv rfl (mv rfl (lv (a69 underlying123 rfl hm103) (lv (I6 rfl rfl) ?_))))
   obtain⟨o,V,bx⟩:=ob bk
   obtain⟨ck,ai⟩:=SH.rowI_at aq m2 hm103 V
   obtain⟨cl,bz,bA⟩:=E1.at hrow102 V
   obtain⟨rfl,cm,bB⟩:=bz
   have bC: ∀(j:Nat) (d:Value),[V6 o.Last,V6 o.Most][j]? =some d→cs101[(z8 ((O.length:Int)-(1:Int))).toNat*m8.size+j]? =some d:=bA
   refine lv (a5Q (t:=m8) underlying123 a6L rfl rfl ai hm103 V) (av rfl (nr (mv rfl (fl a5U rfl E6 m1 aq rfl (lv (B7 rfl) (fa c1k rfl (c1e (t:=m8) (off:=0) (ds:=[V6 o.Last,V6 o.Most]) (v:=V6 m.Doc) (u:=.agg #[V6 m.Doc,V6 o.Most]) (e:=(g6.mk m.Doc o.Most)) wn E6 rfl rfl rfl rfl (by simp [Value.cells,Value.oneCell']) ai aq.f2 hrow102 hm103 V bC rfl rfl ⟨rfl,aI,bB⟩ fun cs142 cn hrow144 hm145 bD=>?_)))))))
   have ar:=c1Q (e:=(g6.mk m.Doc o.Most)) V
   obtain⟨cp,bE,bF⟩:=E1.at hrow144 ar
   obtain⟨rfl,bG,bH⟩:=bE
   have aL: ∀(j:Nat) (d:Value),[V6 ((g6.mk m.Doc o.Most).Last),V6 ((g6.mk m.Doc o.Most).Most)][j]? =some d→cs142[(z8 ((O.length:Int)-(1:Int))).toNat*m8.size+j]? =some d:=bF
   refine nq ?_
   have aj:=bD.drew
   refine wh1 (fun w'=>H0 T w'∧B0 ag [V6 m.Doc,V3 ad ae af] w') (fun w'=>a9N R cs142 w') 14 [(4,11),(4,12),(4,13),(4,14),(11,12),(11,13),(11,14),(12,13),(13,14)] mixed ⟨aj.hasK kr,aj.hasObj m2⟩ (fun _=>aj.hasRow (.head _)) (gt (i5 rfl) (gt (i5 rfl) (gt (B7 rfl) (gt (c7 c2I rfl) (gf (fun _ h=>(a4Y E6 rfl rfl (aL 1 _ rfl) ai h)) (gt (i5 rfl) (gt (i5 rfl) (gt (i5 rfl) (gt (c7 a5U rfl) ?_)))))))))
   refine gh (fun _ h=>B5 E6 rfl rfl h.2) (gn ?_)
   obtain⟨q,bI,bJ⟩:=ob bx
   have aM:=aj.f1
   refine lk c4B (a2x F aM.e1 (aw.mono ((I.le.trans x).trans U)) (ax.mono ((I.le.trans x).trans U)) (ay.mono ((I.le.trans x).trans U)) (az.mono ((I.le.trans x).trans U)) aA aB aI bI) ?_
   rintro cq cr ⟨bK,rfl,W,bL⟩
   have ak:=(aM.c1 W).t3
   refine i8 (qh ⟨ak.hasK W.le,ak.hasObj m2⟩ (fun _=>ak.hasRow (.tail _ (.head _))) (gt (b9x rfl rfl) (gt (B7 rfl) (gt (c7 c2I rfl) (gn (c1e (t:=m8) (off:=1) (ds:=[V6 ((g6.mk m.Doc o.Most).Last),V6 ((g6.mk m.Doc o.Most).Most)]) (v:=V6 (if q>(g6.mk m.Doc o.Most).Most then q else (g6.mk m.Doc o.Most).Most)) (u:=.agg #[V6 ((g6.mk m.Doc o.Most).Last),V6 (if q>(g6.mk m.Doc o.Most).Most then q else (g6.mk m.Doc o.Most).Most)]) (e:=(g6.mk (g6.mk m.Doc o.Most).Last (if q>(g6.mk m.Doc o.Most).Most then q else (g6.mk m.Doc o.Most).Most))) wn E6 rfl rfl rfl rfl (by simp [Value.cells,Value.oneCell']) ai ak.f1 (E1.mono W.le hrow144) hm145 ar aL rfl rfl ⟨rfl,bG,(b9q bH bL)⟩ fun cs167 ct hrow169 hm170 au=>?_))))))
   have bM:=c1Q (e:=(g6.mk (g6.mk m.Doc o.Most).Last (if q>(g6.mk m.Doc o.Most).Most then q else (g6.mk m.Doc o.Most).Most))) ar
   obtain⟨cu,bN,bO⟩:=E1.at hrow169 bM
   obtain⟨rfl,cv,cw⟩:=bN
   have cx: ∀(j:Nat) (d:Value),[V6 ((g6.mk (g6.mk m.Doc o.Most).Last (if q>(g6.mk m.Doc o.Most).Most then q else (g6.mk m.Doc o.Most).Most)).Last),V6 ((g6.mk (g6.mk m.Doc o.Most).Last (if q>(g6.mk m.Doc o.Most).Most then q else (g6.mk m.Doc o.Most).Most)).Most)][j]? =some d→cs167[(z8 ((O.length:Int)-(1:Int))).toNat*m8.size+j]? =some d:=bO
   refine i8 (qh ⟨au.hasK W.le,au.hasObj m2⟩ (fun h=>by cases h) (gd' (x8 (qg (lv (B6 rfl rfl (C6 hi65 (b7.max an))) (mv rfl (i8 ?_)))))))
   cases oi bJ
   exact qd ⟨R,S,ah,cs167,bK,rfl,au.f1.s,((x.trans U).trans W.le),hrow169,hm170⟩
  rintro ab _ aW bP ⟨G,y,H,cs61,s,rfl,ac,x,hrow62,hm63⟩
  subst bP
  refine sr (lv (u7 rfl rfl) (ns (C8 rfl (c6 (by omega)) (y4 (g8 (g8 (l6 ?_)))))))
  cases oi aV
  exact qd ⟨G,y,H,cs61,s,rfl,ac,x,hrow62,hm63⟩
 rintro _ cy ⟨X,J,Y,cs46,aa,rfl,bQ,cz,hrow47,hm48⟩
 refine qr (mv rfl (av rfl (nq (j9 ?_))))
 obtain⟨bR,cA,bS,bT⟩:=SH.freezeI bQ.f1 hrow47 hm48
 cases oi aT
 exact ey results81 ⟨X,J,Y,bR,rfl,bT,bS⟩

theorem b6W {q0:List g6}{q1:Int}{r:Int}(hS:SH w K [] w K [])(c:b7 m8 K A a b q0)(aT:i7 q1)(hm:a3w F q0 q1=some r):
  Calls prog 82 #[V3 A a b,V6 q1] w (R_i w K r):=by
 rw [a3w] at hm
 refine ci func82 rfl ntmps82 (sr (lv (N2 rfl) (O7 (lv (u9 (v:=V6 1) rfl) (nq ?_)))))
 obtain⟨W,X,f⟩:=ob hm
 refine l4 (IE W w K [] K [(0,V3 A a b),(1,V6 q1)] []) ?_ ?_
 ·refine j7 ?_
  obtain⟨aU,Y,G⟩:=ob X
  refine qw (fun (s:Int)=>IW w K [] K [(0,V3 A a b),(1,V6 q1),(5,V6 s)] [] (i7 s)) Y ⟨K,rfl,hS,kr,(by decide :i7 1)⟩ ?_
  rintro s _ aV aW aa H ⟨ab,rfl,I,d,aX⟩
  refine o4 (sr (mv rfl (mv rfl (lv (q9 underlying123 rfl (c.mono d)) (lv (u7 rfl rfl) (nq (D5 aa rfl (fun ac x=>?_) (fun ac x=>?_))))))))
  ·refine j3 (qs (j7 (o4 (D4 mixed (by kernel_rfl) I (km rfl (km rfl (kv (I6 rfl rfl) ?_)))))))
   obtain⟨J,ad,ae⟩:=ob x
   refine ki underlying123 a6L (c.mono d) ad fun af ag aY ah ai=>?_
   obtain⟨rfl,aZ,ba⟩:=ah
   have aj:F1 _ af ag [V6 J.Last,V6 J.Most]:=ai
   refine kv (c7 c1k rfl) (kh (C1 E6 rfl (aj 0 _ rfl)) (km rfl (km rfl ?_)))
   obtain⟨O,ak,am⟩:=ob ae
   refine ki underlying123 a6L (c.mono d) ak fun an ao bb ap aq=>?_
   obtain⟨rfl,bc,bd⟩:=ap
   have ar:F1 _ an ao [V6 O.Last,V6 O.Most]:=aq
   refine kv (c7 c1k rfl) (kh (C1 E6 rfl (ar 0 _ rfl)) (kv (a3B rfl rfl) (B4 ?_)))
   rintro be ⟨R,S,au⟩
   refine l5 (D5 am rfl (fun aw y=>?_) (fun aw y=>?_))
   ·refine sr (lv (u9 (v:=V6 (-1)) rfl) (nq (j9 (i9 (c9 (c9 ?_))))))
    cases oi y
    cases H _ rfl
    refine i9 (c9 ?_)
    cases oi G
    refine c9 ?_
    cases oi f
    exact ey results82 ⟨R,rfl,S,(by decide :i7 (-1))⟩
   refine j3 (x8 (l5 (j5 (mv rfl (lv (y7 rfl rfl) (av rfl (i8 ?_)))))))
   cases oi y
   exact qd ⟨_,rfl,R,rfl,S,(d.trans au),(u0 _)⟩
  refine y4 (g8 (g8 ?_))
  cases oi x
  cases H _ rfl
  refine l6 ?_
  cases oi G
  exact qd ⟨_,ab,rfl,rfl,I,d⟩
 rintro _ bf ⟨s9,B,rfl,rfl,ax,C⟩
 have f:=E9 f
 refine qs (sr (mv rfl (lv (q9 underlying123 rfl (c.mono C)) (lv (r_m rfl) (nq ?_)))))
 obtain⟨ay,az,i⟩:=ob f
 refine l4 (IE ay w K [] B [] []) ?_ ?_
 ·refine j7 ?_
  obtain⟨bh,aA,T⟩:=ob az
  refine qf (fun (U:Nat) (V:Unit)=>IV w K [] B [(1,V6 q1),(26,V3 A a b),(27,V6 (q0.length:Int)),(28,V6 ((U:Nat):Int))] []) aA ⟨B,rfl,ax,kr⟩ ?_ ?_
  ·rintro U V _ aB bi hi78 aC aD ⟨k,rfl,l,m⟩
   refine sr (lv (u7 rfl rfl) (ns (C9 rfl (b8 (by omega)) (j3 (l5 (o4 (j7 (sr ?_))))))))
   obtain⟨o,aE,aF⟩:=ob aC
   refine li underlying123 a6L (c.mono (C.trans m)) aE fun aG aH bj aI aJ=>?_
   obtain⟨rfl,bk,aK⟩:=aI
   have aL:F1 _ aG aH [V6 o.Last,V6 o.Most]:=aJ
   refine lv (F3 a6L rfl l aL rfl) (al a6L l fun aM bl aN=>?_)
   have aO:SH _ _ _ _ _ [s7 aM [V6 0,V6 0] 171]:=aN
   refine lw [V6 o.Last,V6 o.Most] a6L aO fun bm q=>(nr (fl c1k rfl E6 m0 q rfl (mv rfl (lv (a3B rfl rfl) (nq (D5 aF rfl (fun aP D=>?_) (fun aP D=>?_)))))))
   ·refine sr (fl c2I rfl E6 m0 q rfl (av rfl (nq (j9 (i9 (c9 (c9 ?_)))))))
    cases oi D
    cases aD _ rfl
    refine i9 (c9 ?_)
    cases oi T
    refine c9 ?_
    cases oi i
    exact ey results82 ⟨k,rfl,q.s,aK⟩
   refine j3 (x8 (qg (lv (B6 rfl rfl (C6 hi78 (b7.max (c.mono C)))) (mv rfl (i8 ?_)))))
   cases oi D
   exact qd ⟨_,rfl,k,rfl,q.s,m⟩
  rintro V _ aB aQ ⟨k,rfl,l,m⟩
  subst aQ
  refine sr (lv (u7 rfl rfl) (ns (C8 rfl (c6 (by omega)) (y4 (g8 (g8 (l6 ?_)))))))
  cases oi T
  exact L6 ⟨_,k,rfl,rfl,l,m⟩ trivial
 rintro _ bn ⟨bo,aR,rfl,rfl,aS,bp⟩
 have i:=E9 i
 refine qr (lv (N2 rfl) (nq (j9 ?_)))
 cases oi i
 exact ey results82 ⟨aR,rfl,aS,I5⟩

theorem b1x {q0:E3}{q1:Int}{r:Bool}(hS:SH w K Z w K [s7 g3 [V6 q1] 3])(d:i7 q0.Doc)(f:i7 q0.Points)(i:i7 q1)(hm:a14 F q0 q1=some r):
  Calls prog 146 #[.agg #[V6 q0.Doc,V6 q0.Points],.pointer (some ⟨g3,0,none⟩)] w fun e w'=>∃K',e= .returned (.bool r)∧SH w K Z w' K' [s7 g3 [V6 q1] 3]:=by
 rw [a14] at hm
 refine ci func146 rfl ntmps146 (sr (bx rfl hS fun b k c=>?_))
 have a:SH _ _ _ _ _ [s7 b [V6 q0.Doc,V6 q0.Points] 71,_]:=c
 refine lv (O6 rfl) (nr (fl a4N rfl E6 m0 a rfl (lv (w8 E6 rfl m1 a rfl) (lv (A9 rfl rfl) (av rfl (nq (j9 ?_)))))))
 cases oi hm
 exact ey results146 ⟨K,rfl,a.s⟩

theorem a27 {q0:List E3}{q1c0:Int}{r:Int}(hS:SH w K Z w K [s7 c [V6 q1c0] 3])(f:b7 Q0 K A a b q0)(D:i7 q1c0)(hm:L5 F q0 q1c0=some r):
  Calls prog 182 #[V3 A a b,.func (.func 146) #[] #[.pointer (some ⟨c,0,none⟩)]] w fun e w'=>∃K',e= .returned (V6 r)∧SH w K Z w' K' [s7 c [V6 q1c0] 3]∧i7 r:=by
 rw [L5] at hm
 refine ci func182 rfl ntmps182 (sr (lv (N2 rfl) (O7 (mv rfl (lv (q9 underlying57 rfl f) (lv (r_m rfl) (nq ?_)))))))
 obtain⟨G,H,i⟩:=ob hm
 refine l4 (IE G w K Z K [] [s7 c [V6 q1c0] 3]) ?_ ?_
 ·refine j7 ?_
  obtain⟨ai,I,o⟩:=ob H
  refine qf (fun (q:Nat) (s:Unit)=>IV w K Z K [(0,V3 A a b),(1,.func (.func 146) #[] #[pt c]),(7,V6 (q0.length:Int)),(8,V6 ((q:Nat):Int))] [s7 c [V6 q1c0] 3]) I ⟨K,rfl,hS,kr⟩ ?_ ?_
  ·rintro q s _ J aj hi25 O R ⟨x,rfl,d,k⟩
   refine sr (lv (u7 rfl rfl) (ns (C9 rfl (b8 (by omega)) (j3 (l5 (o4 (j7 (sr (mv rfl (av rfl (nr (mv rfl ?_))))))))))))
   refine mv rfl (mv rfl ?_)
   obtain⟨l,S,T⟩:=ob O
   refine li underlying57 Q2 (f.mono k) S fun U V ak W X=>?_
   obtain⟨rfl,Y,aa⟩:=W
   have ab:F1 _ U V [V6 l.Doc,V6 l.Points]:=X
   refine lv (F3 Q2 rfl d ab rfl) ?_
   obtain⟨al,ac,ad⟩:=ob T
   refine A3 wn rfl (b0W (vs:=[.agg #[V6 l.Doc,V6 l.Points]]) (cap:=#[pt c]) c5O rfl rfl) (b1x F d.e1 Y aa D ac) ?_
   rintro am an ⟨y,rfl,B⟩
   refine⟨_,rfl,?_⟩
   have C:=(d.c1 B).t1
   refine nq (D5 ad rfl (fun ae m=>?_) (fun ae m=>?_))
   ·refine sr (mv rfl (av rfl (nq (j9 (i9 (c9 (c9 ?_)))))))
    cases oi m
    cases R _ rfl
    refine i9 (c9 ?_)
    cases oi o
    refine c9 ?_
    cases oi i
    exact ey results182 ⟨y,rfl,C,(b28 hi25 (b7.max f))⟩
   refine j3 (x8 (qg (lv (B6 rfl rfl (C6 hi25 (b7.max f))) (mv rfl (i8 ?_)))))
   cases oi m
   exact qd ⟨_,rfl,y,rfl,C,(k.trans B.le)⟩
  rintro s _ J af ⟨x,rfl,d,k⟩
  subst af
  refine sr (lv (u7 rfl rfl) (ns (C8 rfl (c6 (by omega)) (y4 (g8 (g8 (l6 ?_)))))))
  cases oi o
  exact L6 ⟨_,x,rfl,rfl,d,k⟩ trivial
 rintro _ ao ⟨ap,ag,rfl,rfl,ah,aq⟩
 have i:=E9 i
 refine qr (lv (u9 (v:=V6 (-1)) rfl) (nq (j9 ?_)))
 cases oi i
 exact ey results182 ⟨ag,rfl,ah,(by decide :i7 (-1))⟩

theorem a2e {q0:List E3}{q1c0:Int}{r:Bool}(hS:SH w K Z w K [s7 c [V6 q1c0] 3])(d:b7 Q0 K A a b q0)(f:i7 q1c0)(hm:I8 F q0 q1c0=some r):
  Calls prog 145 #[V3 A a b,.func (.func 146) #[] #[.pointer (some ⟨c,0,none⟩)]] w fun e w'=>∃K',e= .returned (.bool r)∧SH w K Z w' K' [s7 c [V6 q1c0] 3]:=by
 rw [I8] at hm
 refine ci func145 rfl ntmps145 (sr (lv (O6 rfl) (nr (mv rfl (mv rfl ?_)))))
 obtain⟨q,i,k⟩:=ob hm
 refine lk c6b (a27 F hS.e1 d f i) ?_
 rintro s x ⟨l,rfl,m,y⟩
 have o:=(hS.c1 m).t1
 refine lv (a3B rfl rfl) (av rfl (nq (j9 ?_)))
 cases oi k
 exact ey results145 ⟨l,rfl,o⟩

theorem b3K {q0:List E3}{q1:Int}{r:Bool}(hS:SH w K [] w K [])(f:b7 Q0 K A a b q0)(i:i7 q1)(hm:a3G F q0 q1=some r):
  Calls prog 103 #[V3 A a b,V6 q1] w (R_b w K r):=by
 rw [a3G] at hm
 refine ci func103 rfl ntmps103 (sr (bx rfl hS fun c x k=>?_))
 have d:SH _ _ _ _ _ [s7 c [V6 q1] 3]:=k
 refine lv (O6 rfl) (nr (mv rfl (lv (b2e (vs:=[pt c]) rfl) ?_)))
 obtain⟨y,l,m⟩:=ob hm
 refine lk c5N (a2e F d.e1 f i l) ?_
 rintro B C ⟨o,rfl,q⟩
 have s:=(d.c1 q).t1
 refine av rfl (nq (j9 ?_))
 cases oi m
 exact ey results103 ⟨o,rfl,s.s⟩

theorem a51 {q0:Int}{q1:Int}{r:Int}(hS:SH w K [] w K [])(m:i7 q0)(o:i7 q1)(hm:X4 F q0 q1=some r):
  Calls prog 147 #[V6 q0,V6 q1] w (R_i w K r):=by
 rw [X4] at hm
 refine ci func147 rfl ntmps147 (sr (lv (N2 rfl) (nr (mv rfl ?_))))
 obtain⟨J,q,s⟩:=ob hm
 refine lk b82 (a3o F hS.enter0 m q) ?_
 rintro O R ⟨S,rfl,x⟩
 have l:=(hS.c0 x).t0
 refine av rfl (nr (mv rfl ?_))
 obtain⟨T,y,A⟩:=ob s
 refine lk b82 (a3o F l.enter0 o y) ?_
 rintro U V ⟨a,rfl,B⟩
 have b:=(l.c0 B).t0
 refine av rfl (O7 (mv rfl (nq (D5 A rfl (fun C c=>?_) (fun C c=>?_)))))
 ·refine o4 (sr (mv rfl (nq (D5 c rfl (fun D d=>?_) (fun D d=>?_)))))
  ·refine sr (lv (N2 rfl) (nq (rr (c9 ?_))))
   cases oi d
   exact ey results147 ⟨a,rfl,b,I5⟩
  refine j3 (qr (lv (u9 (v:=V6 (-1)) rfl) (nq (rr ?_))))
  cases oi d
  exact ey results147 ⟨a,rfl,b,(by decide :i7 (-1))⟩
 refine j3 (qs (sr (mv rfl (nq (D5 c rfl (fun G f=>?_) (fun G f=>?_))))))
 ·refine sr (lv (u9 (v:=V6 1) rfl) (nq (rr ?_)))
  cases oi f
  exact ey results147 ⟨a,rfl,b,(by decide :i7 1)⟩
 refine j3 (qs (sr (mv rfl (mv rfl (lv (u7 rfl rfl) (nq (D5 f rfl (fun H i=>?_) (fun H i=>?_))))))))
 ·refine sr (lv (u9 (v:=V6 (-1)) rfl) (nq (rr ?_)))
  cases oi i
  exact ey results147 ⟨a,rfl,b,(by decide :i7 (-1))⟩
 refine j3 (qs (sr (mv rfl (mv rfl (lv (E7 rfl rfl) (nq (D5 i rfl (fun I k=>?_) (fun I k=>?_))))))))
 ·refine sr (lv (u9 (v:=V6 1) rfl) (nq (rr ?_)))
  cases oi k
  exact ey results147 ⟨a,rfl,b,(by decide :i7 1)⟩
 refine j3 (qr (lv (N2 rfl) (nq (j9 ?_))))
 cases oi k
 exact ey results147 ⟨a,rfl,b,I5⟩

theorem a4U {q0:E3}{q1:E3}{r:Int}(hS:SH w K [] w K [])(y:i7 q0.Doc)(A:i7 q0.Points)(B:i7 q1.Doc)(C:i7 q1.Points)(hm:I0 F q0 q1=some r):
  Calls prog 104 #[.agg #[V6 q0.Doc,V6 q0.Points],.agg #[V6 q1.Doc,V6 q1.Points]] w (R_i w K r):=by
 rw [I0] at hm
 refine ci func104 rfl ntmps104 (sr (bx rfl hS fun o w6 D=>?_))
 have G:SH _ _ _ _ _ [s7 o [V6 q0.Doc,V6 q0.Points] 71]:=D
 refine bx rfl G fun q ac H=>?_
 have I:SH _ _ _ _ _ [s7 q [V6 q1.Doc,V6 q1.Points] 71,_]:=H
 refine lv (N2 rfl) (ns ?_)
 have a:=I.drew
 refine j_0 (fun w'=>H0 K w'∧B0 q [V6 q1.Doc,V6 q1.Points] w'∧B0 o [V6 q0.Doc,V6 q0.Points] w') 13 [] mixed ⟨a.hasK kr,a.hasObj m0,a.hasObj m1⟩ (jv 0 rfl (c7 a4O rfl) (jh 1 rfl (fun _ h=>B5 E6 rfl rfl h.2.1) (jv 2 rfl (c7 a4O rfl) (jh 3 rfl (fun _ h=>B5 E6 rfl rfl h.2.2) (jv 5 rfl (c7 a4N rfl) (jh 6 rfl (fun _ h=>B5 E6 rfl rfl h.2.2) (jv 7 rfl (c7 a4N rfl) (jh 8 rfl (fun _ h=>B5 E6 rfl rfl h.2.1) (j1 4 rfl ?_)))))))))
 obtain⟨b,J,O⟩:=ob hm
 refine lk c3V (a51 F a.enter0 C A J) ?_
 rintro ad ae ⟨af,rfl,c,R⟩
 have d:=(a.c0 c).t2
 refine P0 ⟨d.hasK c.le,d.hasObj m0,d.hasObj m1⟩ (j1 9 rfl ?_)
 obtain⟨f,S,T⟩:=ob O
 refine lk c3V (a51 F d.enter0 y B S) ?_
 rintro ag ah ⟨ai,rfl,k,U⟩
 have l:=(d.c0 k).t2
 refine P0 ⟨l.hasK (c.le.trans k.le),l.hasObj m0,l.hasObj m1⟩ (j1 10 rfl (J2 (t:=D6) (n:=2) (pv:=[(0,V6 b),(1,V6 f)]) (cs:=[V6 b,V6 f]) (xs:=[b,f]) wn rfl underlying46 E6 rfl rfl rfl (by kernel_rfl) rfl rfl (H5 (u:=V6 b) (z:=b) ⟨rfl,R⟩ (H5 (u:=V6 f) (z:=f) ⟨rfl,U⟩ a1W)) l fun aj ak al s V i=>(P0 ⟨i.hasK ((c.le.trans k.le).trans s),i.hasObj m1,i.hasObj m2⟩ (j1 11 rfl ?_))))
 obtain⟨am,W,X⟩:=ob T
 refine lk c3N (a9B F i.enter0 V W) ?_
 rintro an ao ⟨Y,rfl,x,aa⟩
 have m:=(i.c0 x).t3
 refine P0 ⟨m.hasK (((c.le.trans k.le).trans s).trans x.le),m.hasObj m1,m.hasObj m2⟩ (jv 12 rfl (u9 rfl) (jd (l5 (j9 ?_))))
 cases oi X
 exact ey results104 ⟨Y,rfl,m.s,aa⟩

theorem b3J {q0:List E3}{r:Bool}(hS:SH w K [] w K [])(k:b7 Q0 K A a b q0)(hm:a3F F q0=some r):
  Calls prog 51 #[V3 A a b] w (R_b w K r):=by
 rw [a3F] at hm
 refine ci func51 rfl ntmps51 (sr (lv (O6 rfl) (O7 (mv rfl (lv (q9 underlying57 rfl k) (lv (r_m rfl) (nq ?_)))))))
 obtain⟨Y,h6,o⟩:=ob hm
 refine l4 (IE Y w K [] K [(0,V3 A a b)] []) ?_ ?_
 ·refine j7 ?_
  obtain⟨bk,ab,I⟩:=ob h6
  refine qf (fun (x:Nat) (J:Unit)=>IV w K [] K [(0,V3 A a b),(5,V3 A a b),(6,V6 (q0.length:Int)),(7,V6 ((x:Nat):Int))] []) ab ⟨K,rfl,hS,kr⟩ ?_ ?_
  ·rintro x J _ ac bl hi23 ad ae ⟨y,rfl,q,l⟩
   refine sr (lv (u7 rfl rfl) (ns (C9 rfl (b8 (by omega)) (j3 (l5 (o4 (j7 (sr (mv rfl ?_)))))))))
   obtain⟨m,af,ag⟩:=ob ad
   refine li underlying57 Q2 (k.mono l) af fun ah ai bm aj ak=>?_
   obtain⟨rfl,s,O⟩:=aj
   have am:F1 _ ah ai [V6 m.Doc,V6 m.Points]:=ak
   refine lv (F3 Q2 rfl q am rfl) (al Q2 q fun an bn ao=>?_)
   have ap:SH _ _ _ _ _ [s7 an [V6 0,V6 0] 71]:=ao
   refine av rfl (lw [V6 m.Doc,V6 m.Points] Q2 ap fun bo R=>(ns ?_))
   obtain⟨aq,ar,au⟩:=ob ag
   refine l4 (IV w K [] y [(0,V3 A a b),(5,V3 A a b),(6,V6 (q0.length:Int)),(7,V6 ((x:Nat):Int)),(42,.bool aq)] []) ?_ ?_
   ·refine D4 mixed (by kernel_rfl) R (kv (c7 a4N rfl) (kh (z6 E6 rfl m0 rfl) ?_))
    obtain⟨bp,aw,ax⟩:=ob ar
    refine kc a5x (fun _ _ ay bq=>(E2 F) ay.enter0 s (by decide :i7 1) (by decide :i7 9999) aw) (kv (A4 rfl) (km rfl (bt ax (fun i B=>?_) (fun i B=>?_))))
    ·refine kn i (kn i (kn i (kv (J6 rfl i rfl) (km rfl ?_))))
     iterate 6 refine qv rfl rfl rfl rfl ?_
     refine kv (J6 rfl rfl rfl) (km rfl (qv rfl rfl rfl rfl (qv rfl rfl rfl rfl (qv rfl rfl rfl rfl ?_))))
     iterate 8 refine ku ?_
     refine qv rfl rfl rfl rfl (kv (J6 rfl rfl rfl) (B4 ?_))
     rintro br ⟨az,aA,aB⟩
     cases oi B
     exact qd ⟨az,rfl,aA.s,aB⟩
    refine kg i (c7 a4O rfl) (kgh i (z6 E6 rfl m0 rfl) (kg i (u7 rfl rfl) (kv (l9 rfl i rfl) (km rfl (bt B (fun f C=>?_) (fun f C=>?_))))))
    ·iterate 6 refine kn f ?_
     refine kv (J6 rfl f rfl) (km rfl (qv rfl rfl rfl rfl (qv rfl rfl rfl rfl (qv rfl rfl rfl rfl ?_))))
     iterate 8 refine ku ?_
     refine qv rfl rfl rfl rfl (kv (J6 rfl rfl rfl) (B4 ?_))
     rintro bs ⟨aC,aD,aE⟩
     cases oi C
     exact qd ⟨aC,rfl,aD.s,aE⟩
    refine kg f (i5 rfl) (kg f (i5 rfl) ?_)
    obtain⟨bu,aF,aG⟩:=ob C
    refine c3J (t:=Q0) (wg rfl rfl f) rfl underlying57 Q2 rfl rfl (k.mono l) aF fun bv bx bz aH=>(kg f (c7 a4N rfl) (kgh f (z6 E6 rfl m0 rfl) ?_))
    obtain⟨bA,aI,aJ⟩:=ob aG
    refine kcg f c5o (fun _ _ aK aL=>(b3K F) aK.enter0 (aH.mono aL) s aI) (kv (l9 rfl f rfl) (km rfl (bt aJ (fun c D=>?_) (fun c D=>?_))))
    ·refine kn c (kn c (kn c ?_))
     iterate 8 refine ku ?_
     refine kn c (kv (J6 rfl c rfl) (B4 ?_))
     rintro bB ⟨aM,aN,aO⟩
     cases oi D
     exact qd ⟨aM,rfl,aN.s,aO⟩
    refine kg c (i5 rfl) (kg c (E7 rfl rfl) (kg c (i5 rfl) (bt D (fun d G=>?_) (fun d G=>?_))))
    ·refine kg d (i5 rfl) (kg d (i5 rfl) (kg d (I6 rfl rfl) ?_))
     obtain⟨S,aP,aQ⟩:=ob G
     refine C7 (t:=Q0) (wg rfl rfl d) rfl underlying57 Q2 rfl rfl (k.mono l) aP fun aR aS bC aT aU=>?_
     obtain⟨rfl,T,U⟩:=aT
     have aV:F1 _ aR aS [V6 S.Doc,V6 S.Points]:=aU
     refine kgh d (a1C Q2 rfl aV rfl) (kgh d (D8 (ds:=[V6 m.Doc,V6 m.Points]) Q2 rfl m0 rfl rfl) ?_)
     obtain⟨bD,V,aW⟩:=ob aQ
     refine kdg d c5p (fun _ _ aX bE=>(a4U F) aX.enter0 T U s O V) ?_
     obtain⟨_,_,_,⟨_,_,_,bF⟩,_⟩:=(a4U F) R.enter0 T U s O V []
     refine kg d (a3B rfl rfl) (kg c (n9 rfl d rfl) (kv (l9 rfl c rfl) (B4 ?_)))
     rintro bG ⟨aY,aZ,ba⟩
     cases oi aW
     exact qd ⟨aY,rfl,aZ.s,ba⟩
    iterate 8 refine kn d ?_
    refine kg c (L8 rfl d rfl) (kv (l9 rfl c rfl) (B4 ?_))
    rintro bH ⟨bb,bc,bd⟩
    cases oi G
    exact qd ⟨bb,rfl,bc.s,bd⟩
   rintro _ bI ⟨W,rfl,X,be⟩
   refine l5 (D5 au rfl (fun bf H=>?_) (fun bf H=>?_))
   ·refine sr (lv (O6 rfl) (nq (j9 (i9 (c9 (c9 ?_))))))
    cases oi H
    cases ae _ rfl
    refine i9 (c9 ?_)
    cases oi I
    refine c9 ?_
    cases oi o
    exact ey results51 ⟨W,rfl,X⟩
   refine j3 (x8 (qg (lv (B6 rfl rfl (C6 hi23 (b7.max k))) (mv rfl (i8 ?_)))))
   cases oi H
   exact qd ⟨_,rfl,W,rfl,X,(l.trans be)⟩
  rintro J _ ac bg ⟨y,rfl,q,l⟩
  subst bg
  refine sr (lv (u7 rfl rfl) (ns (C8 rfl (c6 (by omega)) (y4 (g8 (g8 (l6 ?_)))))))
  cases oi I
  exact qd ⟨_,y,rfl,rfl,q,l⟩
 rintro _ bJ ⟨s8,K9,rfl,rfl,bi,bj⟩
 have o:=E9 o
 refine qr (mv rfl (lv (q9 underlying57 rfl (k.mono bj)) (lv (V2 rfl rfl) (av rfl (nq (j9 ?_))))))
 cases oi o
 exact ey results51 ⟨K9,rfl,bi⟩

theorem b0H {q0:List E3}{q1:Int}{r:(List E3)}(hS:SH w K [] w K [])(f:b7 Q0 K A a b q0)(al:i7 q1)(hm:a1l F q0 q1=some r):
  Calls prog 91 #[V3 A a b,V6 q1] w fun e w'=>∃a_1 n_2 c_3 K',e= .returned (V3 a_1 n_2 c_3)∧SH w K [] w' K' [tail (V3 a_1 n_2 c_3) 71 2]∧b7 Q0 K' a_1 n_2 c_3 r:=by
 rw [a1l] at hm
 refine ci func91 rfl ntmps91 (sr (lv (r_n rfl) (nr (b0 Q0 underlying57 Q2 hS fun a6 w7 K8 i k l=>(mv rfl ?_)))))
 obtain⟨ap,m,o⟩:=ob hm
 refine lp underlying57 Q2 k (f.mono i) m l fun q s B aq ar au C D=>(av rfl (nr (mv rfl ?_)))
 obtain⟨aw,G,H⟩:=ob o
 refine A3 wn rfl (A2 (vs:=[V3 q s B,.func (.func 104) #[] #[]]) c5L rfl) (c0M (T:=Q0) sortLay143 b7H rfl (fun w=>Go.Fk.a5P Q2 w) (fun w=>Go.Fk.T7 Q2 w) (fun a b=>I0 F a b) 104 (Go.Proofs.enters_of func104 (by kernel_rfl) rfl) D hS.holds (fun b hb=>by cases hb) C (fun _ _ _ _ _ h=>h) (fun K1 W v x u y r hW I J hm=>by
  obtain⟨rfl,O,R⟩:=I
  obtain⟨rfl,S,U⟩:=J
  exact(a4U (dr:=⟨True⟩) F (SH.start (dr:=⟨True⟩) hW) O R S U hm).mono fun e w' ⟨K',he,hS',_⟩=>⟨K',he,hS'⟩) G) ?_
 rintro ay az ⟨aA,rfl,V,c⟩
 refine⟨_,rfl,?_⟩
 refine nr (b0 Q0 underlying57 Q2 V fun aB aC aD d X Y=>(mv rfl (mv rfl (lv (q9 underlying57 rfl (c.mono d)) (mv rfl (lv (b9y rfl rfl) ?_))))))
 obtain⟨aE,aa,ab⟩:=ob H
 refine a7z (t:=Q0) wn rfl underlying57 Q2 rfl rfl (c.mono d) aa fun aF aG aH ac=>?_
 obtain⟨aI,ad,ae⟩:=ob ab
 refine lp underlying57 Q2 X ac ad Y fun af ag ah aJ ai aK aj ak=>(av rfl (nq (j9 ?_)))
 cases oi ae
 exact ey results91 ⟨af,ag,ah,ai,rfl,ak.s,aj⟩

theorem c7y {q0:List E3}{q1:E3}{q2:Int}{r:(List E3)}(hS:SH w K [] w K [])(m:b7 Q0 K A a b q0)(x:i7 q1.Doc)(ai:i7 q1.Points)(W:i7 q2)(hm:a33 F q0 q1 q2=some r):
  Calls prog 84 #[V3 A a b,.agg #[V6 q1.Doc,V6 q1.Points],V6 q2] w fun e w'=>∃a_1 n_2 c_3 K',e= .returned (V3 a_1 n_2 c_3)∧SH w K [] w' K' [tail (V3 a_1 n_2 c_3) 71 2]∧b7 Q0 K' a_1 n_2 c_3 r:=by
 rw [a33] at hm
 refine ci func84 rfl ntmps84 (sr (bx rfl hS fun k w9 aj=>?_))
 have X:SH _ _ _ _ _ [s7 k [V6 q1.Doc,V6 q1.Points] 71]:=aj
 refine lv (r_n rfl) (ns (o4 ?_))
 obtain⟨ak,al,am⟩:=ob hm
 refine l4 (IV w K [] K [(0,V3 A a b),(2,V6 q2),(4,pt k),(21,.bool ak)] [s7 k [V6 q1.Doc,V6 q1.Points] 71]) ?_ ?_
 ·refine j5 (mv rfl ?_)
  obtain⟨bg,an,ao⟩:=ob al
  refine lk c62 (b3J F X.enter0 m an) ?_
  rintro bh bi ⟨ap,rfl,l⟩
  have y:=(X.c0 l).t1
  refine lv (A4 rfl) (mv rfl (bt ao (fun f B=>?_) (fun f B=>?_)))
  ·refine lu f (lu f (lu f (lv (J6 rfl f rfl) (mv rfl (lu rfl (lu rfl (lu rfl (lu rfl (lv (J6 rfl rfl rfl) ?_)))))))))
   refine i8 ?_
   cases oi B
   exact qd ⟨ap,rfl,y,l.le⟩
  refine lg f (i5 rfl) ?_
  obtain⟨bj,aq,ar⟩:=ob B
  refine A3 (wg rfl rfl f) rfl (A2 (vs:=[V6 q2,V6 1,V6 16]) a5x rfl) (E2 F y.enter0 W (by decide :i7 1) (by decide :i7 16) aq) ?_
  rintro bk bl ⟨Y,rfl,o⟩
  refine⟨_,rfl,?_⟩
  have aa:=(y.c0 o).t1
  refine lg f (A4 rfl) (lv (l9 rfl f rfl) (mv rfl (bt ar (fun c C=>?_) (fun c C=>?_))))
  ·refine lu c (lu c (lu c (lu c (lv (J6 rfl c rfl) (i8 ?_)))))
   cases oi C
   exact qd ⟨Y,rfl,aa,(l.le.trans o.le)⟩
  refine lg c (i5 rfl) (lg c (q9 underlying57 rfl (m.mono (l.le.trans o.le))) (lg c (i5 rfl) (lg c (E7 rfl rfl) (lv (l9 rfl c rfl) (i8 ?_)))))
  cases oi C
  exact qd ⟨Y,rfl,aa,(l.le.trans o.le)⟩
 rintro _ bm ⟨bn,rfl,ab,ac⟩
 refine l5 (D5 am rfl (fun au D=>?_) (fun au D=>?_))
 ·refine sr (b0 Q0 underlying57 Q2 ab fun aw bo ax bp ay az=>(av rfl (nq (rr ?_))))
  cases oi D
  exact ey results84 ⟨aw,0,0,ax,rfl,az.s,ay⟩
 refine j3 (qr (b0 Q0 underlying57 Q2 ab fun bq br bs ad aA aB=>(mv rfl ?_)))
 obtain⟨bu,aC,aD⟩:=ob D
 refine lp underlying57 Q2 aA (m.mono (ac.trans ad)) aC aB fun G H I bv aE aF ae J=>(av rfl (ns (o4 ?_)))
 obtain⟨aG,aH,aI⟩:=ob aD
 refine l4 (IV w K [] aE [(2,V6 q2),(4,pt k),(7,V3 G H I),(40,.bool aG)] [s7 k [V6 q1.Doc,V6 q1.Points] 71,tail (V3 G H I) 71 2]) ?_ ?_
 ·refine j5 (mv rfl (fl a4N rfl E6 m1 J rfl ?_))
  obtain⟨bz,aJ,aK⟩:=ob aH
  refine lk c5o (b3K F J.enter0 (m.mono ((ac.trans ad).trans aF)) x aJ) ?_
  rintro bA bB ⟨aL,rfl,q⟩
  have s:=(J.c0 q).t2
  refine mv rfl (bt aK (fun d O=>?_) (fun d O=>?_))
  ·refine lu d (lu d (lu d (lu d (lv (J6 rfl d rfl) (mv rfl (lu rfl (lu rfl (lu rfl (lv (J6 rfl rfl rfl) ?_)))))))))
   refine i8 ?_
   cases oi O
   exact qd ⟨aL,rfl,s.f1,q.le⟩
  refine lg d (c7 a4N rfl) (lg d (w8 E6 rfl m1 s rfl) ?_)
  obtain⟨bC,aM,aN⟩:=ob O
  refine A3 (wg rfl rfl d) rfl (A2 (vs:=[V6 q1.Doc,V6 1,V6 9999]) a5x rfl) (E2 F s.enter0 x (by decide :i7 1) (by decide :i7 9999) aM) ?_
  rintro bD bE ⟨af,rfl,R⟩
  refine⟨_,rfl,?_⟩
  have S:=(s.c0 R).t2
  refine lg d (A4 rfl) (lv (l9 rfl d rfl) (mv rfl (bt aN (fun i T=>?_) (fun i T=>?_))))
  ·refine lu i (lu i (lu i (lv (J6 rfl i rfl) (i8 ?_))))
   cases oi T
   exact qd ⟨af,rfl,S.f1,(q.le.trans R.le)⟩
  refine lg i (c7 a4O rfl) (lg i (w8 E6 rfl m1 S rfl) (lg i (u7 rfl rfl) (lv (l9 rfl i rfl) (i8 ?_))))
  cases oi T
  exact qd ⟨af,rfl,S.f1,(q.le.trans R.le)⟩
 rintro _ bF ⟨aO,rfl,U,ag⟩
 refine l5 (D5 aI rfl (fun aP V=>?_) (fun aP V=>?_))
 ·refine sr (mv rfl (av rfl (nq (rr ?_))))
  cases oi V
  exact ey results84 ⟨G,H,I,aO,rfl,U.s,(ae.mono ag)⟩
 refine j3 (qr (mv rfl (lv (j6 (ds:=[V6 q1.Doc,V6 q1.Points]) Q2 rfl m0 U rfl rfl) (lb Q0 (.agg #[V6 q1.Doc,V6 q1.Points]) [V6 q1.Doc,V6 q1.Points] q1 underlying57 Q2 ⟨rfl,x,ai⟩ U fun bG bH bI aQ aR aS=>?_))))
 obtain⟨bJ,aT,aU⟩:=ob V
 refine lp underlying57 Q2 (ae.mono (ag.trans aQ)) aR aT aS.f2 fun bK bL bM bN bO bP aV ah=>(mv rfl ?_)
 obtain⟨bQ,aW,aX⟩:=ob aU
 refine lk c68 (b0H F ah.enter0 aV W aW) ?_
 rintro bR bS ⟨aY,aZ,ba,bb,rfl,bc,bd⟩
 have be:=(ah.c0 bc).t4
 refine av rfl (nq (j9 ?_))
 cases oi aX
 exact ey results84 ⟨aY,aZ,ba,bb,rfl,be.s,bd⟩

theorem c7p {q0:u6}{q1:A5}{q2:r4}{q3:List r4}{q4:Int}{r:(List E3)×Int}(hS:SH w K [] w K [])(bf:b7 D9 K A a b q0.Stops)(bg:b7 L0 K B c d q0.Syns)(an:b7 F6 K C f i q1.Docs)(bv:b7 B8 K D k l q1.Entries)(bz:q2.length≤maxLen)(aE:b7 D9 K G m n q3)(cb:i7 q4)(hm:a0a F q0 q1 q2 q3 q4=some r):
  Calls prog 26 #[.agg #[V3 A a b,V3 B c d],.agg #[V3 C f i,V3 D k l],sv q2,V3 G m n,V6 q4] w fun e w'=>∃a_1 n_2 c_3 K',e= .returned (.tuple #[V3 a_1 n_2 c_3,V6 r.2])∧SH w K [] w' K' [tail (V3 a_1 n_2 c_3) 71 2]∧b7 Q0 K' a_1 n_2 c_3 r.1∧i7 r.2:=by
 rw [a0a] at hm
 refine ci func26 rfl ntmps26 (sr (bx rfl hS fun ag gA cF=>?_))
 have cG:SH _ _ _ _ _ [s7 ag [V3 A a b,V3 B c d] 26]:=cF
 refine bx rfl cG fun I gB cH=>?_
 have bh:SH _ _ _ _ _ [s7 I [V3 C f i,V3 D k l] 30,_]:=cH
 refine lv (r_n rfl) (lv (N2 rfl) (ns ?_))
 obtain⟨cI,cJ,cK⟩:=ob hm
 refine l4 (IV w K [] K [(2,sv q2),(3,V3 G m n),(4,V6 q4),(5,pt ag),(6,pt I),(12,.bool cI)] [s7 ag [V3 A a b,V3 B c d] 26,s7 I [V3 C f i,V3 D k l] 30]) ?_ ?_
 ·refine j5 (lv (j6 (ds:=[V3 A a b,V3 B c d]) B9 rfl m1 bh rfl rfl) (lv (j6 (ds:=[V3 C f i,V3 D k l]) C4 rfl m0 bh rfl rfl) ?_))
  obtain⟨gC,cL,cM⟩:=ob cJ
  refine lk a9k (J1 F bh.enter0 bf bg an bv cL) ?_
  rintro gD gE ⟨cN,rfl,au⟩
  have bA:=(bh.c0 au).t2
  refine mv rfl (bt cM (fun aw bB=>?_) (fun aw bB=>?_))
  ·refine lg aw (i5 rfl) ?_
   obtain⟨gF,cO,cP⟩:=ob bB
   refine A3 (wg rfl rfl aw) rfl (A2 (vs:=[sv q2]) b0l rfl) (J5 F bA.enter0 bz cO) ?_
   rintro gG gH ⟨cQ,rfl,aF⟩
   refine⟨_,rfl,?_⟩
   have bC:=(bA.c0 aF).t2
   refine lv (n9 rfl aw rfl) (mv rfl (bt cP (fun ai bD=>?_) (fun ai bD=>?_)))
   ·refine lg ai (i5 rfl) (lg ai (q9 underlying23 rfl (aE.mono (au.le.trans aF.le))) ?_)
    obtain⟨gI,cR,cS⟩:=ob bD
    refine A3 (wg rfl rfl ai) rfl (A2 (vs:=[V6 (q3.length:Int),V6 1,V6 4]) a5x rfl) (E2 F bC.enter0 (aE.mono (au.le.trans aF.le)).rn (by decide :i7 1) (by decide :i7 4) cR) ?_
    rintro gJ gK ⟨cT,rfl,bE⟩
    refine⟨_,rfl,?_⟩
    have bF:=(bC.c0 bE).t2
    refine lv (n9 rfl ai rfl) (mv rfl (bt cS (fun ax bG=>?_) (fun ax bG=>?_)))
    ·refine lg ax (i5 rfl) ?_
     obtain⟨gL,cU,cV⟩:=ob bG
     refine A3 (wg rfl rfl ax) rfl (A2 (vs:=[V6 q4,V6 1,V6 16]) a5x rfl) (E2 F bF.enter0 cb (by decide :i7 1) (by decide :i7 16) cU) ?_
     rintro gM gN ⟨cW,rfl,cc⟩
     refine⟨_,rfl,?_⟩
     have cX:=(bF.c0 cc).t2
     refine lv (n9 rfl ax rfl) (av rfl (i8 ?_))
     cases oi cV
     exact qd ⟨cW,rfl,cX.f1,(((au.le.trans aF.le).trans bE.le).trans cc.le)⟩
    refine lu ax (lu ax (lv (L8 rfl ax rfl) (av rfl (i8 ?_))))
    cases oi bG
    exact qd ⟨cT,rfl,bF.f1,((au.le.trans aF.le).trans bE.le)⟩
   refine lu ai (lu ai (lu ai (lv (L8 rfl ai rfl) (mv rfl (lu rfl (lu rfl (lv (L8 rfl rfl rfl) (av rfl (i8 ?_)))))))))
   cases oi bD
   exact qd ⟨cQ,rfl,bC.f1,(au.le.trans aF.le)⟩
  refine lu aw (lu aw (lv (L8 rfl aw rfl) (mv rfl (lu rfl (lu rfl (lu rfl (lv (L8 rfl rfl rfl) (mv rfl (lu rfl ?_)))))))))
  refine lu rfl (lv (L8 rfl rfl rfl) (av rfl (i8 ?_)))
  cases oi bB
  exact qd ⟨cN,rfl,bA.f1,au.le⟩
 rintro _ gO ⟨gP,rfl,cY,o⟩
 refine qr (b0 D9 underlying23 G7 cY fun cZ gQ bH q da db=>(av rfl (O7 (mv rfl (lv (q9 underlying23 rfl (aE.mono (o.trans q))) (lv (r_m rfl) (nq ?_)))))))
 obtain⟨bi,dc,dd⟩:=ob cK
 refine l4 (fun E' w'=>∃x y H bj,E'=[(2,sv q2),(4,V6 q4),(5,pt ag),(6,pt I),(12,.bool bi.1),(13,V3 x y H)]∧SH w K [] w' bj [s7 ag [V3 A a b,V3 B c d] 26,s7 I [V3 C f i,V3 D k l] 30,tail (V3 x y H) 9 1]∧M0 bH bj∧b7 D9 bj x y H bi.2) ?_ ?_
 ·refine j7 ?_
  obtain⟨gR,de,df⟩:=ob dc
  refine qF (fun (bk:Nat) (bl:Bool×(List r4)) E' w'=>∃Y aa ab ao,E'=[(2,sv q2),(4,V6 q4),(5,pt ag),(6,pt I),(12,.bool bl.1),(13,V3 Y aa ab),(46,V3 G m n),(47,V6 (q3.length:Int)),(48,V6 ((bk:Nat):Int))]∧SH w K [] w' ao [s7 ag [V3 A a b,V3 B c d] 26,s7 I [V3 C f i,V3 D k l] 30,tail (V3 Y aa ab) 9 1]∧M0 bH ao∧b7 D9 ao Y aa ab bl.2) de ⟨cZ,0,0,bH,rfl,db.f2.f2,kr,da⟩ ?_ ?_
  ·rintro bk bl _ dg gS hi113 dh ⟨Y,aa,ab,ao,rfl,aG,ay,aP⟩
   refine sr (lv (u7 rfl rfl) (ns (C9 rfl (b8 (by omega)) (j3 (l5 (o4 (j7 (sr ?_))))))))
   obtain⟨bI,di,dj⟩:=ob dh
   refine li underlying23 G7 (aE.mono ((o.trans q).trans ay)) di fun dk dl gT dm dn=>?_
   obtain⟨rfl,cd⟩:=dm
   have dp:F1 _ dk dl [sv bI]:=dn
   refine lv (y9 G7 rfl aG (dp 0 _ rfl)) (av rfl (ns ?_))
   obtain⟨ce,dq,dr⟩:=ob dj
   refine l4 (IV w K [] ao [(2,sv q2),(4,V6 q4),(5,pt ag),(6,pt I),(12,.bool ce),(13,V3 Y aa ab),(15,sv bI),(46,V3 G m n),(47,V6 (q3.length:Int)),(48,V6 ((bk:Nat):Int))] [s7 ag [V3 A a b,V3 B c d] 26,s7 I [V3 C f i,V3 D k l] 30,tail (V3 Y aa ab) 9 1]) ?_ ?_
   ·refine j5 (mv rfl (mv rfl (bt dq (fun az bJ=>?_) (fun az bJ=>?_))))
    ·refine lg az (i5 rfl) ?_
     obtain⟨gU,dt,du⟩:=ob bJ
     refine A3 (wg rfl rfl az) rfl (A2 (vs:=[sv bI]) b0l rfl) (J5 F aG.enter0 cd dt) ?_
     rintro gV gW ⟨dv,rfl,cf⟩
     refine⟨_,rfl,?_⟩
     have dw:=(aG.c0 cf).t3
     refine lv (n9 rfl az rfl) (av rfl (i8 ?_))
     cases oi du
     exact qd ⟨dv,rfl,dw,cf.le⟩
    refine lu az (lu az (lv (L8 rfl az rfl) (av rfl (i8 ?_))))
    cases oi bJ
    exact qd ⟨ao,rfl,aG,kr⟩
   rintro _ gX ⟨gY,rfl,bK,aA⟩
   refine qr (lv (j6 (ds:=[V3 A a b,V3 B c d]) B9 rfl m0 bK rfl rfl) (mv rfl ?_))
   obtain⟨aQ,dx,dy⟩:=ob dr
   refine lk c2P (a4y F bK.enter0 (b7.mono (((o.trans q).trans ay).trans aA) bf) (b7.mono (((o.trans q).trans ay).trans aA) bg) cd dx) ?_
   rintro gZ hb ⟨cg,rfl,aH,ch⟩
   have bL:=(bK.c0 aH).t3
   refine av rfl (ns ?_)
   obtain⟨dz,dA,dB⟩:=ob dy
   refine l4 (IV w K [] cg [(2,sv q2),(4,V6 q4),(5,pt ag),(6,pt I),(12,.bool ce),(13,V3 Y aa ab),(16,sv aQ),(46,V3 G m n),(47,V6 (q3.length:Int)),(48,V6 ((bk:Nat):Int)),(67,.bool dz)] [s7 ag [V3 A a b,V3 B c d] 26,s7 I [V3 C f i,V3 D k l] 30,tail (V3 Y aa ab) 9 1]) ?_ ?_
   ·refine j5 (mv rfl (lv (a2C (r:=([]:r4)) rfl rfl) (mv rfl (bt dA (fun ah bM=>?_) (fun ah bM=>?_)))))
    ·refine lg ah (i5 rfl) (lg ah (i5 rfl) ?_)
     obtain⟨hc,dC,dD⟩:=ob bM
     refine A3 (wg rfl rfl ah) rfl (A2 (vs:=[V3 Y aa ab,sv aQ]) c4A rfl) (a0F F bL.enter0 (aP.mono (aA.trans aH.le)) ch dC) ?_
     rintro hd he ⟨dE,rfl,cj⟩
     refine⟨_,rfl,?_⟩
     have dF:=(bL.c0 cj).t3
     refine lg ah (A4 rfl) (lv (n9 rfl ah rfl) (i8 ?_))
     cases oi dD
     exact qd ⟨dE,rfl,dF,cj.le⟩
    refine lu ah (lu ah (lu ah (lu ah (lv (L8 rfl ah rfl) (i8 ?_)))))
    cases oi bM
    exact qd ⟨cg,rfl,bL,kr⟩
   rintro _ hf ⟨dG,rfl,ck,bm⟩
   refine l5 (D5 dB rfl (fun dH bN=>?_) (fun dH bN=>?_))
   ·refine j5 (mv rfl (mv rfl (lb D9 (sv aQ) [sv aQ] aQ underlying23 G7 ⟨rfl,ch⟩ ck fun hg hh hi cl dI dJ=>?_)))
    obtain⟨hj,dK,dL⟩:=ob bN
    refine lp underlying23 G7 (b7.mono (((aA.trans aH.le).trans bm).trans cl) aP) dI dK dJ.f3 fun dM dN dO hk dP dQ dR dS=>(av rfl (nb (qg (lv (B6 rfl rfl (C6 hi113 (b7.max (aE.mono (o.trans q))))) (mv rfl (i8 ?_))))))
    cases oi dL
    exact qd ⟨dM,dN,dO,dP,rfl,dS.f3.f3.s,(((((ay.trans aA).trans aH.le).trans bm).trans cl).trans dQ),dR⟩
   refine j3 (x8 (qg (lv (B6 rfl rfl (C6 hi113 (b7.max (aE.mono (o.trans q))))) (mv rfl (i8 ?_)))))
   cases oi bN
   exact qd ⟨Y,aa,ab,dG,rfl,ck,(((ay.trans aA).trans aH.le).trans bm),(aP.mono ((aA.trans aH.le).trans bm))⟩
  rintro bl _ dg dT ⟨Y,aa,ab,ao,rfl,aG,ay,aP⟩
  subst dT
  refine sr (lv (u7 rfl rfl) (ns (C8 rfl (c6 (by omega)) (y4 (g8 (g8 (l6 ?_)))))))
  cases oi df
  exact qd ⟨Y,aa,ab,ao,rfl,aG,ay,aP⟩
 rintro _ hn ⟨x,y,H,bj,rfl,bn,T,aI⟩
 refine qs (sr (mv rfl (lv (A4 rfl) (nq (D5 dd rfl (fun dU bO=>?_) (fun dU bO=>?_))))))
 ·refine sr (b0 Q0 underlying57 Q2 bn fun dV ho dW hp dX dY=>(av rfl (lv (u9 (v:=V6 (-1)) rfl) (nq (rr ?_)))))
  cases oi bO
  exact S7 (vs:=[_,_]) results26 ⟨rfl,rfl,trivial⟩ ⟨dV,0,0,dW,rfl,dY.s,dX,(by decide :i7 (-1))⟩
 refine j3 (qr (lv (j6 (ds:=[V3 A a b,V3 B c d]) B9 rfl m0 bn rfl rfl) (lv (j6 (ds:=[V3 C f i,V3 D k l]) C4 rfl m1 bn rfl rfl) (lv (C3 (cs:=#[V3 A a b,V3 B c d,V3 C f i,V3 D k l]) c4i c4n rfl (by kernel_rfl)) (bx rfl bn fun U hq dZ=>?_)))))
 have ea:SH _ _ _ _ _ [s7 U [V3 A a b,V3 B c d,V3 C f i,V3 D k l] 113,_,_,_]:=dZ
 refine av rfl (nr (a6j (X2 m8) wn rfl underlying122 c3K ea fun eb hr bP s ec ed=>(av rfl (O7 (mv rfl (lv (q9 underlying23 rfl (aI.mono s)) (lv (r_m rfl) (nq ?_))))))))
 obtain⟨ee,ef,eg⟩:=ob bO
 refine l4 (fun E' w'=>∃ac ad ae bo,E'=[(2,sv q2),(4,V6 q4),(6,pt I),(13,V3 x y H),(17,pt U),(18,V3 ac ad ae)]∧SH w K [] w' bo [s7 I [V3 C f i,V3 D k l] 30,s7 U [V3 A a b,V3 B c d,V3 C f i,V3 D k l] 113,tail (V3 x y H) 9 1,tail (V3 ac ad ae) 123 1]∧M0 bP bo∧b7 (X2 m8) bo ac ad ae ee) ?_ ?_
 ·refine j7 ?_
  obtain⟨ht,eh,ei⟩:=ob ef
  have ej:=ed.f4.f2.f4.sb (sk (sk (sk (sk (sd sz)))))
  refine qF (fun (cm:Nat) (bQ:(List (List g6))) E' w'=>∃aJ aK aL aM,E'=[(2,sv q2),(4,V6 q4),(6,pt I),(13,V3 x y H),(17,pt U),(18,V3 aJ aK aL),(81,V3 x y H),(82,V6 (bi.2.length:Int)),(83,V6 ((cm:Nat):Int))]∧SH w K [] w' aM [s7 I [V3 C f i,V3 D k l] 30,s7 U [V3 A a b,V3 B c d,V3 C f i,V3 D k l] 113,tail (V3 x y H) 9 1,tail (V3 aJ aK aL) 123 1]∧M0 bP aM∧b7 (X2 m8) aM aJ aK aL bQ) eh ⟨eb,0,0,bP,rfl,ej,kr,ec⟩ ?_ ?_
  ·rintro cm bQ _ ek hu hi241 el ⟨aJ,aK,aL,aM,rfl,bp,ap,bR⟩
   refine sr (lv (u7 rfl rfl) (ns (C9 rfl (b8 (by omega)) (j3 (l5 (o4 (j7 (sr ?_))))))))
   obtain⟨em,en,eo⟩:=ob el
   refine li underlying23 G7 (aI.mono (s.trans ap)) en fun ep eq hv es et=>?_
   obtain⟨rfl,eu⟩:=es
   have ev:F1 _ ep eq [sv em]:=et
   refine lv (y9 G7 rfl bp (ev 0 _ rfl)) (av rfl (nq (j5 (mv rfl (mv rfl (mv rfl (mv rfl ?_)))))))
   obtain⟨ew,ex,eA⟩:=ob eo
   have cn:=bp.f1
   refine lk c9u ((b9K F (q0:=(T0.mk q0 q1))) cn.e1 (b7.mono ((((o.trans q).trans T).trans s).trans ap) bf) (b7.mono ((((o.trans q).trans T).trans s).trans ap) bg) (b7.mono ((((o.trans q).trans T).trans s).trans ap) an) (b7.mono ((((o.trans q).trans T).trans s).trans ap) bv) bz eu ex) ?_
   rintro hw hx ⟨cp,cq,cr,hy,rfl,bS,eB⟩
   have eC:=(cn.c1 bS).t5
   refine lb (X2 m8) (V3 cp cq cr) [V3 cp cq cr] ew underlying122 c3K ⟨_,_,_,rfl,eB⟩ eC fun hz hA hB ct eD eE=>?_
   obtain⟨hC,eF,eG⟩:=ob eA
   refine lp underlying122 c3K (bR.mono (bS.le.trans ct)) eD eF eE.f5 fun eH eI eJ hD eK eL eM eN=>(av rfl (nb (qg (lv (B6 rfl rfl (C6 hi241 (b7.max (aI.mono s)))) (mv rfl (i8 ?_))))))
   cases oi eG
   exact qd ⟨eH,eI,eJ,eK,rfl,eN.f5.f4.f5.s,(((ap.trans bS.le).trans ct).trans eL),eM⟩
  rintro bQ _ ek eO ⟨aJ,aK,aL,aM,rfl,bp,ap,bR⟩
  subst eO
  refine sr (lv (u7 rfl rfl) (ns (C8 rfl (c6 (by omega)) (y4 (g8 (g8 (l6 ?_)))))))
  cases oi ei
  exact qd ⟨aJ,aK,aL,aM,rfl,bp,ap,bR⟩
 rintro _ hE ⟨ac,ad,ae,bo,rfl,eP,af,eQ⟩
 refine qr (b0 Q0 underlying57 Q2 eP fun eR hF bT V eS cu=>(av rfl (nr (lv (N2 rfl) (O7 (fl L3 rfl a1b m1 cu rfl (lv (q9 underlying27 rfl (b7.mono (((((o.trans q).trans T).trans s).trans af).trans V) an)) (lv (r_m rfl) (nq ?_)))))))))
 obtain⟨bU,eT,eU⟩:=ob eg
 refine l4 (fun E' w'=>∃aR aS aT aU,E'=[(21,V3 aR aS aT),(22,V6 bU.2)]∧SH w K [] w' aU [tail (V3 aR aS aT) 71 2]∧M0 bT aU∧b7 Q0 aU aR aS aT bU.1∧i7 bU.2) ?_ ?_
 ·refine j7 ?_
  obtain⟨hG,eV,eW⟩:=ob eT
  have eX:=cu.f4.f4.f4.sb (sk (sk (sk (sk (sd sz)))))
  refine qF (fun (aV:Nat) (aq:(List E3)×Int) E' w'=>∃J O R aj,E'=[(2,sv q2),(4,V6 q4),(13,V3 x y H),(17,pt U),(18,V3 ac ad ae),(21,V3 J O R),(22,V6 aq.2),(97,V3 C f i),(98,V6 (q1.Docs.length:Int)),(99,V6 ((aV:Nat):Int))]∧SH w K [] w' aj [s7 U [V3 A a b,V3 B c d,V3 C f i,V3 D k l] 113,tail (V3 x y H) 9 1,tail (V3 ac ad ae) 123 1,tail (V3 J O R) 71 2]∧M0 bT aj∧b7 Q0 aj J O R aq.1∧i7 aq.2) eV ⟨eR,0,0,bT,rfl,eX,kr,eS,I5⟩ ?_ ?_
  ·rintro aV aq _ eY hH hi327 eZ ⟨J,O,R,aj,rfl,bq,S,ar,bV⟩
   refine sr (lv (u7 rfl rfl) (ns (C9 rfl (b8 (by omega)) (j3 (l5 (o4 (j7 (sr ?_))))))))
   obtain⟨aB,fb,fc⟩:=ob eZ
   refine li underlying27 E8 (b7.mono ((((((o.trans q).trans T).trans s).trans af).trans V).trans S) an) fb fun fd fe hI fg fh=>?_
   obtain⟨aW,aX,aY,aZ,ba,bb,rfl,br,hJ,hK⟩:=fg
   have fi:F1 _ fd fe [V6 aB.Id,V3 aW aX aY,V3 aZ ba bb]:=fh
   refine lv (F3 E8 rfl bq fi rfl) (al E8 bq fun aC hL fj=>?_)
   have fk:SH _ _ _ _ _ [s7 aC [V6 0,V3 none 0 0,V3 none 0 0] 44,_,_,_,_]:=fj
   refine lw [V6 aB.Id,V3 aW aX aY,V3 aZ ba bb] E8 fk fun hM fm=>(nr (lv (N2 rfl) (lv (N2 rfl) (O7 (mv rfl (lv (q9 underlying23 rfl (b7.mono (((s.trans af).trans V).trans S) aI)) (lv (r_m rfl) (nq ?_))))))))
   obtain⟨aD,fn,fo⟩:=ob fc
   refine l4 (IW w K [] aj [(2,sv q2),(4,V6 q4),(13,V3 x y H),(17,pt U),(18,V3 ac ad ae),(21,V3 J O R),(22,V6 aq.2),(24,pt aC),(25,V6 aD.1),(26,V6 aD.2),(97,V3 C f i),(98,V6 (q1.Docs.length:Int)),(99,V6 ((aV:Nat):Int))] [s7 U [V3 A a b,V3 B c d,V3 C f i,V3 D k l] 113,s7 aC [V6 aB.Id,V3 aW aX aY,V3 aZ ba bb] 44,tail (V3 x y H) 9 1,tail (V3 ac ad ae) 123 1,tail (V3 J O R) 71 2] (i7 aD.1∧i7 aD.2)) ?_ ?_
   ·refine j7 ?_
    obtain⟨hN,fp,fq⟩:=ob fn
    refine qF (fun (cv:Nat) (aN:Int×Int)=>IW w K [] aj [(2,sv q2),(4,V6 q4),(13,V3 x y H),(17,pt U),(18,V3 ac ad ae),(21,V3 J O R),(22,V6 aq.2),(24,pt aC),(25,V6 aN.1),(26,V6 aN.2),(97,V3 C f i),(98,V6 (q1.Docs.length:Int)),(99,V6 ((aV:Nat):Int)),(103,V3 x y H),(104,V6 (bi.2.length:Int)),(105,V6 ((cv:Nat):Int))] [s7 U [V3 A a b,V3 B c d,V3 C f i,V3 D k l] 113,s7 aC [V6 aB.Id,V3 aW aX aY,V3 aZ ba bb] 44,tail (V3 x y H) 9 1,tail (V3 ac ad ae) 123 1,tail (V3 J O R) 71 2] (i7 aN.1∧i7 aN.2)) fp ⟨aj,rfl,fm.f4.f4.f4.f3.f4,kr,I5,I5⟩ ?_ ?_
    ·rintro cv aN _ fr hO hi380 fs ⟨cw,rfl,bc,ak,cx,cy⟩
     refine sr (lv (u7 rfl rfl) (ns (C9 rfl (b8 (by omega)) (j3 (l5 (o4 (j7 (sr (mv rfl ?_)))))))))
     obtain⟨ft,fu,fv⟩:=ob fs
     refine li underlying23 G7 (b7.mono ((((s.trans af).trans V).trans S).trans ak) aI) fu fun fw fx hP fy fz=>?_
     obtain⟨rfl,fA⟩:=fy
     have fB:F1 _ fw fx [sv ft]:=fz
     refine lv (y9 G7 rfl bc (fB 0 _ rfl)) (av rfl (av rfl (ns (D4 mixed (by kernel_rfl) bc (km rfl (km rfl (km rfl ?_)))))))
     obtain⟨hQ,fC,fD⟩:=ob fv
     refine ki underlying122 c3K (eQ.mono ((V.trans S).trans ak)) fC fun fE fF hR fG fH=>?_
     obtain⟨fI,fJ,fK,rfl,cz⟩:=fG
     have fL:F1 _ fE fF [V3 fI fJ fK]:=fH
     refine kh (C1 c3K rfl (fL 0 _ rfl)) (kv (c7 P6 rfl) (kh (z6 E6 rfl m1 rfl) ?_))
     obtain⟨hT,cA,fM⟩:=ob fD
     refine kd c9v (fun _ _ fN fO=>(b6W F) fN.enter0 (cz.mono fO) br cA) ?_
     obtain⟨_,_,_,⟨_,_,_,hU⟩,_⟩:=(b6W F) bc.enter0 cz br cA []
     refine kv (y7 rfl rfl) (kv (u9 rfl) (B4 ?_))
     rintro hV ⟨hW,bW,bd⟩
     refine l5 (j5 (mv rfl (mv rfl (mv rfl (mv rfl (fl P6 rfl E6 m1 bW rfl ?_))))))
     obtain⟨hX,fP,fQ⟩:=ob fM
     refine lk c4B ((a2x F (q0:=(T0.mk q0 q1))) bW.e1 (b7.mono ((((((((o.trans q).trans T).trans s).trans af).trans V).trans S).trans ak).trans bd) bf) (b7.mono ((((((((o.trans q).trans T).trans s).trans af).trans V).trans S).trans ak).trans bd) bg) (b7.mono ((((((((o.trans q).trans T).trans s).trans af).trans V).trans S).trans ak).trans bd) an) (b7.mono ((((((((o.trans q).trans T).trans s).trans af).trans V).trans S).trans ak).trans bd) bv) bz fA br fP) ?_
     rintro hY hZ ⟨fR,rfl,cB,ia⟩
     have fS:=(bW.c1 cB).t5
     refine lv (y7 rfl rfl) (av rfl (nb (qg (lv (B6 rfl rfl (C6 hi380 (b7.max (b7.mono (((s.trans af).trans V).trans S) aI)))) (mv rfl (i8 ?_))))))
     cases oi fQ
     exact qd ⟨fR,rfl,fS,((ak.trans bd).trans cB.le),(u0 _),(u0 _)⟩
    rintro aN _ fr fT ⟨cw,rfl,bc,ak,cx,cy⟩
    subst fT
    refine sr (lv (u7 rfl rfl) (ns (C8 rfl (c6 (by omega)) (y4 (g8 (g8 (l6 ?_)))))))
    cases oi fq
    exact qd ⟨cw,rfl,bc,ak,cx,cy⟩
   rintro _ ib ⟨bs,rfl,bu,am,ic,fU⟩
   refine qs (o4 ?_)
   obtain⟨fV,fW,fX⟩:=ob fo
   refine l4 (IV w K [] bs [(2,sv q2),(4,V6 q4),(13,V3 x y H),(17,pt U),(18,V3 ac ad ae),(21,V3 J O R),(22,V6 aq.2),(24,pt aC),(26,V6 aD.2),(97,V3 C f i),(98,V6 (q1.Docs.length:Int)),(99,V6 ((aV:Nat):Int)),(146,.bool fV)] [s7 U [V3 A a b,V3 B c d,V3 C f i,V3 D k l] 113,s7 aC [V6 aB.Id,V3 aW aX aY,V3 aZ ba bb] 44,tail (V3 x y H) 9 1,tail (V3 ac ad ae) 123 1,tail (V3 J O R) 71 2]) ?_ ?_
   ·refine j5 (mv rfl (lv (A9 rfl rfl) (mv rfl (bt fW (fun W bX=>?_) (fun W bX=>?_)))))
    ·iterate 5 refine lu W ?_
     refine A8 (uu rfl rfl) rfl (A8 (uu rfl rfl) rfl (A8 (uu rfl rfl) rfl (A8 (uu rfl rfl) rfl (A8 (uu rfl rfl) rfl (A8 (uu rfl rfl) rfl (A8 (uu rfl rfl) rfl (A8 (uu rfl rfl) rfl (A8 (uu rfl rfl) rfl (lu W ?_)))))))))
     refine lv (J6 rfl W rfl) (i8 ?_)
     cases oi bX
     exact qd ⟨bs,rfl,bu,kr⟩
    refine lg W (i5 rfl) (lg W (q9 underlying57 rfl (ar.mono am)) (lg W (i5 rfl) (lg W (A9 rfl rfl) (lg W (i5 rfl) (bt bX (fun X bY=>?_) (fun X bY=>?_))))))
    ·refine lg X (i5 rfl) (lg X (i5 rfl) (lg X (i5 rfl) (lg X (q9 underlying57 rfl (ar.mono am)) (lg X (I6 rfl rfl) ?_))))
     obtain⟨cC,fY,fZ⟩:=ob bY
     refine N1 (t:=Q0) (wg rfl rfl X) rfl underlying57 Q2 rfl rfl (ar.mono am) fY fun ga gb ie gc gd=>?_
     obtain⟨rfl,ig,ih⟩:=gc
     have ge:F1 _ ga gb [V6 cC.Doc,V6 cC.Points]:=gd
     refine lg X (c7 a4O rfl) (lg X (y9 E6 rfl bu (ge 1 _ rfl)) (lg X (V2 rfl rfl) (lg W (n9 rfl X rfl) (lv (l9 rfl W rfl) (i8 ?_)))))
     cases oi fZ
     exact qd ⟨bs,rfl,bu,kr⟩
    iterate 9 refine lu X ?_
    refine lg W (L8 rfl X rfl) (lv (l9 rfl W rfl) (i8 ?_))
    cases oi bY
    exact qd ⟨bs,rfl,bu,kr⟩
   rintro _ ii ⟨cD,rfl,be,aO⟩
   refine l5 (D5 fX rfl (fun gg bZ=>?_) (fun gg bZ=>?_))
   ·refine y4 (g8 (l6 (qg (lv (B6 rfl rfl (C6 hi327 (b7.max (b7.mono (((((o.trans q).trans T).trans s).trans af).trans V) an)))) (mv rfl (i8 ?_))))))
    cases oi bZ
    exact qd ⟨J,O,R,cD,rfl,be.s,((S.trans am).trans aO),(ar.mono (am.trans aO)),bV⟩
   refine j3 (qr (mv rfl (lv (y7 rfl rfl) (av rfl (nr (mv rfl (lv (E7 rfl rfl) (nq (D5 bZ rfl (fun gj ca=>?_) (fun gj ca=>?_))))))))))
   ·refine j5 (mv rfl (fl P6 rfl E6 m1 be rfl (mv rfl (lv (C3 (cs:=#[V6 aB.Id,V6 aD.2]) c3D Q2 rfl (by kernel_rfl)) (mv rfl ?_)))))
    obtain⟨ij,gk,gl⟩:=ob ca
    refine lk c9w ((c7y F (q1:=(E3.mk aB.Id aD.2))) be.enter0 (ar.mono (am.trans aO)) br fU cb gk) ?_
    rintro ik il ⟨gm,go,gp,gq,rfl,cE,gr⟩
    have gv:=(be.c0 cE).t6
    refine av rfl (nb (qg (lv (B6 rfl rfl (C6 hi327 (b7.max (b7.mono (((((o.trans q).trans T).trans s).trans af).trans V) an)))) (mv rfl (i8 ?_)))))
    cases oi gl
    exact qd ⟨gm,go,gp,gq,rfl,gv.f4.f4.f3.s,(((S.trans am).trans aO).trans cE.le),gr,(u0 _)⟩
   refine j3 (x8 (qg (lv (B6 rfl rfl (C6 hi327 (b7.max (b7.mono (((((o.trans q).trans T).trans s).trans af).trans V) an)))) (mv rfl (i8 ?_)))))
   cases oi ca
   exact qd ⟨J,O,R,cD,rfl,be.s,((S.trans am).trans aO),(ar.mono (am.trans aO)),(u0 _)⟩
  rintro aq _ eY gw ⟨J,O,R,aj,rfl,bq,S,ar,bV⟩
  subst gw
  refine sr (lv (u7 rfl rfl) (ns (C8 rfl (c6 (by omega)) (y4 (g8 (g8 (l6 ?_)))))))
  cases oi eW
  exact qd ⟨J,O,R,aj,rfl,bq.s,S,ar,bV⟩
 rintro _ im ⟨aR,aS,aT,aU,rfl,gx,io,gy,gz⟩
 refine qr (mv rfl (mv rfl (av rfl (av rfl (nq (j9 ?_))))))
 cases oi eU
 exact S7 (vs:=[_,_]) results26 ⟨rfl,rfl,trivial⟩ ⟨aR,aS,aT,aU,rfl,gx,gy,gz⟩

theorem b2I {q0:E3}{q1:E3}{r:Bool}(hS:SH w K [] w K [])(q:i7 q0.Doc)(s:i7 q0.Points)(x:i7 q1.Doc)(y:i7 q1.Points)(hm:a2O F q0 q1=some r):
  Calls prog 105 #[.agg #[V6 q0.Doc,V6 q0.Points],.agg #[V6 q1.Doc,V6 q1.Points]] w (R_b w K r):=by
 rw [a2O] at hm
 refine ci func105 rfl ntmps105 (sr (bx rfl hS fun i A k=>?_))
 have l:SH _ _ _ _ _ [s7 i [V6 q0.Doc,V6 q0.Points] 71]:=k
 refine bx rfl l fun m B o=>?_
 have b:SH _ _ _ _ _ [s7 m [V6 q1.Doc,V6 q1.Points] 71,_]:=o
 refine lv (O6 rfl) (nr (fl a4O rfl E6 m1 b rfl (fl a4O rfl E6 m0 b rfl (lv (E7 rfl rfl) (mv rfl (bt hm (fun a d=>?_) (fun a d=>?_)))))))
 ·iterate 6 refine lu a ?_
  refine A8 (uu rfl rfl) rfl (A8 (uu rfl rfl) rfl (A8 (uu rfl rfl) rfl (A8 (uu rfl rfl) rfl (A8 (uu rfl rfl) rfl (lu a (lv (J6 rfl a rfl) (av rfl (nq (j9 ?_)))))))))
  cases oi d
  exact ey results105 ⟨K,rfl,b.s⟩
 refine lg a (c7 a4O rfl) (lg a (w8 E6 rfl m1 b rfl) (lg a (c7 a4O rfl) (lg a (w8 E6 rfl m0 b rfl) (lg a (A9 rfl rfl) (lg a (i5 rfl) (bt d (fun c f=>?_) (fun c f=>?_)))))))
 ·refine lg c (c7 a4N rfl) (lg c (w8 E6 rfl m1 b rfl) (lg c (c7 a4N rfl) (lg c (w8 E6 rfl m0 b rfl) (lg c (u7 rfl rfl) (lg a (n9 rfl c rfl) (lv (l9 rfl a rfl) (av rfl (nq (j9 ?_)))))))))
  cases oi f
  exact ey results105 ⟨K,rfl,b.s⟩
 iterate 5 refine lu c ?_
 refine lg a (L8 rfl c rfl) (lv (l9 rfl a rfl) (av rfl (nq (j9 ?_))))
 cases oi f
 exact ey results105 ⟨K,rfl,b.s⟩

theorem b2J {q0:List E3}{q1:E3}{q2:Int}{r:(List E3)}(hS:SH w K [] w K [])(f:b7 Q0 K A a b q0)(s:i7 q1.Doc)(x:i7 q1.Points)(bk:i7 q2)(hm:a2P F q0 q1 q2=some r):
  Calls prog 106 #[V3 A a b,.agg #[V6 q1.Doc,V6 q1.Points],V6 q2] w fun e w'=>∃a_1 n_2 c_3 K',e= .returned (V3 a_1 n_2 c_3)∧SH w K [] w' K' []∧b7 Q0 K' a_1 n_2 c_3 r:=by
 rw [a2P] at hm
 refine ci func106 rfl ntmps106 (sr (bx rfl hS fun d w9 T=>?_))
 have U:SH _ _ _ _ _ [s7 d [V6 q1.Doc,V6 q1.Points] 71]:=T
 refine lv (r_n rfl) (nr (lv (N2 rfl) (ns ?_)))
 obtain⟨y,V,W⟩:=ob hm
 refine l4 (IW w K [] K [(0,V3 A a b),(2,V6 q2),(4,pt d),(7,V6 y)] [s7 d [V6 q1.Doc,V6 q1.Points] 71] (i7 y)) ?_ ?_
 ·refine j7 ?_
  obtain⟨bm,X,Y⟩:=ob V
  refine qw (fun (i:Int)=>IW w K [] K [(0,V3 A a b),(2,V6 q2),(4,pt d),(7,V6 i)] [s7 d [V6 q1.Doc,V6 q1.Points] 71] (i7 i)) X ⟨K,rfl,U,kr,I5⟩ ?_
  rintro i _ bn bo aa ab ⟨ac,rfl,ad,k,ae⟩
  refine o4 (o4 ?_)
  obtain⟨af,ag,ah⟩:=ob aa
  refine l4 (IV w K [] ac [(0,V3 A a b),(2,V6 q2),(4,pt d),(7,V6 i),(20,.bool af)] [s7 d [V6 q1.Doc,V6 q1.Points] 71]) ?_ ?_
  ·refine D4 mixed (by kernel_rfl) ad (km rfl (km rfl (kv (q9 underlying57 rfl (f.mono k)) (kv (u7 rfl rfl) (km rfl (bt ag (fun c l=>?_) (fun c l=>?_)))))))
   ·refine kg c (i5 rfl) (kg c (i5 rfl) ?_)
    obtain⟨B,ai,aj⟩:=ob l
    refine C7 (t:=Q0) (wg rfl rfl c) rfl underlying57 Q2 rfl rfl (f.mono k) ai fun ak al bp am an=>?_
    obtain⟨rfl,ao,ap⟩:=am
    have aq:F1 _ ak al [V6 B.Doc,V6 B.Points]:=an
    refine kgh c (a1C Q2 rfl aq rfl) (kgh c (D8 (ds:=[V6 q1.Doc,V6 q1.Points]) Q2 rfl m0 rfl rfl) ?_)
    obtain⟨bq,ar,au⟩:=ob aj
    refine kcg c c5q (fun _ _ aw br=>(b2I F) aw.enter0 ao ap s x ar) (kv (n9 rfl c rfl) (B4 ?_))
    rintro bs ⟨ax,ay,az⟩
    cases oi au
    exact qd ⟨ax,rfl,ay,az⟩
   iterate 6 refine kn c ?_
   refine kv (L8 rfl c rfl) (B4 ?_)
   rintro bu ⟨aA,aB,aC⟩
   cases oi l
   exact qd ⟨aA,rfl,aB,aC⟩
  rintro _ bv ⟨C,rfl,D,G⟩
  refine l5 (D5 ah rfl (fun aD m=>?_) (fun aD m=>?_))
  ·refine j3 (l5 (j7 (j5 (mv rfl (lv (y7 rfl rfl) (av rfl (nb ?_)))))))
   cases oi m
   exact qd ⟨_,rfl,C,rfl,D,(k.trans G),(u0 _)⟩
  refine y4 (g8 (g8 ?_))
  cases oi m
  cases ab _ rfl
  refine l6 ?_
  cases oi Y
  exact qd ⟨C,rfl,D,(k.trans G),ae⟩
 rintro _ bz ⟨bA,rfl,aE,H,bB⟩
 refine qr (b0 Q0 underlying57 Q2 aE fun bC bD bE I aF aG=>(mv rfl (mv rfl ?_)))
 obtain⟨bF,aH,aI⟩:=ob W
 refine a7z (t:=Q0) wn rfl underlying57 Q2 rfl rfl (f.mono (H.trans I)) aH fun bG bH bI aJ=>?_
 obtain⟨bJ,aK,aL⟩:=ob aI
 refine lp underlying57 Q2 aF aJ aK aG fun bK bL bM bN bO aM aN J=>(av rfl (nr (mv rfl (lv (j6 (ds:=[V6 q1.Doc,V6 q1.Points]) Q2 rfl m1 J rfl rfl) (lb Q0 (.agg #[V6 q1.Doc,V6 q1.Points]) [V6 q1.Doc,V6 q1.Points] q1 underlying57 Q2 ⟨rfl,s,x⟩ J fun bP bQ bR O aO aP=>?_)))))
 obtain⟨bS,aQ,aR⟩:=ob aL
 refine lp underlying57 Q2 (aN.mono O) aO aQ aP.f1 fun bT bU bV bW bX aS aT aU=>(av rfl (nr (mv rfl (mv rfl (mv rfl ?_)))))
 obtain⟨bY,aV,aW⟩:=ob aR
 refine a9h (t:=Q0) wn rfl underlying57 Q2 rfl rfl (b7.mono ((((H.trans I).trans aM).trans O).trans aS) f) aV fun bZ ca cb aX=>?_
 obtain⟨cc,aY,aZ⟩:=ob aW
 refine lp underlying57 Q2 aT aX aY aU fun ba bb bc cd R ce o S=>(av rfl (O7 (mv rfl (lv (q9 underlying57 rfl o) (mv rfl (lv (E7 rfl rfl) (nq (D5 aZ rfl (fun bd q=>?_) (fun bd q=>?_)))))))))
 ·refine sr (mv rfl (mv rfl ?_))
  obtain⟨cf,be,bf⟩:=ob q
  refine a7z (t:=Q0) wn rfl underlying57 Q2 rfl rfl o be fun bg bh bi bj=>(av rfl (nq (rr ?_)))
  cases oi bf
  exact ey results106 ⟨bg,bh,bi,R,rfl,S.s,bj⟩
 refine j3 (qr (mv rfl (av rfl (nq (j9 ?_)))))
 cases oi q
 exact ey results106 ⟨ba,bb,bc,R,rfl,S.s,o⟩

theorem c6R {q0:A5}{q1:r4}{q2:r4}{r:(List g6)}(hS:SH w K [] w K [])(aa:b7 F6 K A a b q0.Docs)(ab:b7 B8 K B c d q0.Entries)(ac:q1.length≤maxLen)(ad:q2.length≤maxLen)(hm:u3 F q0 q1 q2=some r):
  Calls prog 141 #[.agg #[V3 A a b,V3 B c d],sv q1,sv q2] w fun e w'=>∃a_1 n_2 c_3 K',e= .returned (V3 a_1 n_2 c_3)∧SH w K [] w' K' [tail (V3 a_1 n_2 c_3) 171 2]∧b7 m8 K' a_1 n_2 c_3 r:=by
 rw [u3] at hm
 refine ci func141 rfl ntmps141 (sr (bx rfl hS fun C ck aF=>?_))
 have aG:SH _ _ _ _ _ [s7 C [V3 A a b,V3 B c d] 30]:=aF
 refine lv (r_n rfl) (nr (b86 m8 wn rfl underlying123 a6L aG fun aH cl ae=>(av rfl (nr (lv (j6 (ds:=[V3 A a b,V3 B c d]) C4 rfl m1 ae rfl rfl) (mv rfl (mv rfl ?_)))))))
 obtain⟨cm,aI,aJ⟩:=ob hm
 refine lk b6v (a2l F ae.enter0 aa ab ac ad aI) ?_
 rintro cn cp ⟨ao,ap,aq,af,rfl,D,ag⟩
 have aK:=(ae.c0 D).t2
 refine av rfl (O7 (lv (N2 rfl) (nq ?_)))
 obtain⟨ar,aL,aM⟩:=ob aJ
 refine l4 (fun E' w'=>∃W G X cs41 Y,E'=[(7,V3 W G X)]∧SH w K [] w' Y [Z5 (V3 W G X) cs41 171 2]∧M0 af Y∧E1 true m8 Y cs41 ar∧G=ar.length) ?_ ?_
 ·refine j7 ?_
  obtain⟨cq,aN,aO⟩:=ob aL
  refine qw (fun (q:(List g6)×Int) E' w'=>∃H s I cs55 J,E'=[(1,sv q1),(2,sv q2),(3,pt C),(7,V3 H s I),(8,V3 ao ap aq),(9,V6 q.2)]∧SH w K [] w' J [s7 C [V3 A a b,V3 B c d] 30,Z5 (V3 H s I) cs55 171 2]∧M0 af J∧E1 true m8 J cs55 q.1∧s=q.1.length∧i7 q.2) aN ⟨aH,0,0,[],af,rfl,aK.f1,kr,(E1.nil m8 _),rfl,I5⟩ ?_
  rintro q _ cr ct aP aQ ⟨H,s,I,cs55,J,rfl,ah,f,hrow56,hm57,cu⟩
  refine o4 (sr (mv rfl (mv rfl (lv (q9 underlying37 rfl (ag.mono f)) (lv (u7 rfl rfl) (nq (D5 aP rfl (fun aR ai=>?_) (fun aR ai=>?_))))))))
  ·refine j3 (qs (j7 (o4 (D4 mixed (by kernel_rfl) ah (kh (D8 (ds:=[V3 A a b,V3 B c d]) C4 rfl m0 rfl rfl) (km rfl (km rfl (km rfl (km rfl ?_)))))))))
   obtain⟨aS,aT,aU⟩:=ob ai
   refine ki underlying37 a02 (ag.mono f) aT fun aV aW cv aX aY=>?_
   obtain⟨aZ,ba,bb,rfl,au,cw⟩:=aX
   have bc:F1 _ aV aW [V6 aS.Doc,V3 aZ ba bb]:=aY
   refine kv (c7 a5U rfl) (kh (C1 E6 rfl (bc 0 _ rfl)) ?_)
   obtain⟨l,aw,bd⟩:=ob aU
   refine kd c1y (fun _ _ be ax=>(a0W F) be.enter0 (aa.mono ((D.le.trans f).trans ax)) (ab.mono ((D.le.trans f).trans ax)) ac ad au aw) ?_
   obtain⟨_,_,_,⟨_,_,_,bf⟩,_⟩:=(a0W F) ah.enter0 (aa.mono (D.le.trans f)) (ab.mono (D.le.trans f)) ac ad au aw []
   refine kv (u9 rfl) (B4 ?_)
   rintro cx ⟨ay,az,O⟩
   refine qs (sr (mv rfl ?_))
   obtain⟨cy,bg,bh⟩:=ob bd
   refine lv (a8J rfl rfl bg) (lv (A9 rfl rfl) (nq ?_))
   obtain⟨m,bi,bj⟩:=ob bh
   refine l4 (fun E' w'=>∃R x S cs104 y,E'=[(1,sv q1),(2,sv q2),(3,pt C),(7,V3 R x S),(8,V3 ao ap aq),(9,V6 q.2),(10,V6 l)]∧SH w K [] w' y [s7 C [V3 A a b,V3 B c d] 30,Z5 (V3 R x S) cs104 171 2]∧M0 ay y∧E1 true m8 y cs104 m∧x=m.length) ?_ ?_
   ·refine D5 bi rfl (fun bk aj=>?_) (fun bk aj=>?_)
    ·refine j5 (mv rfl (lv (C3 (cs:=#[V6 0,V6 0]) c9a a6L rfl (by kernel_rfl)) (lb m8 (.agg #[V6 0,V6 0]) [V6 0,V6 0] (g6.mk (0:Int) (0:Int)) underlying123 a6L ⟨rfl,I5,I5⟩ az fun cz cA bl aA bm bn=>?_)))
     obtain⟨cB,bo,bp⟩:=ob aj
     refine b4s (t:=m8) wn rfl underlying123 a6L rfl rfl rfl rfl (E1.mono (O.trans aA) hrow56) hm57 bm bo bn.f2 fun bq br bs cs122 cC hrow124 hm125 bu=>(av rfl (i8 ?_))
     cases oi bp
     exact qd ⟨bq,br,bs,cs122,bl,rfl,bu.f2.s,aA,hrow124,hm125⟩
    refine j3 ?_
    cases oi aj
    exact qd ⟨H,s,I,cs55,ay,rfl,az,kr,(E1.mono O hrow56),hm57⟩
   rintro _ cD ⟨R,x,S,cs104,y,rfl,ak,al,hrow105,hm106⟩
   refine qr (mv rfl (lv (a69 underlying123 rfl hm106) (lv (I6 rfl rfl) (av rfl (nr (mv rfl (mv rfl (mv rfl (mv rfl ?_)))))))))
   obtain⟨o,bv,bz⟩:=ob bj
   refine li underlying37 a02 (ag.mono ((f.trans O).trans al)) bv fun bA bB cE bC bD=>?_
   obtain⟨bE,bF,bG,rfl,bH,cF⟩:=bC
   have bI:F1 _ bA bB [V6 o.Doc,V3 bE bF bG]:=bD
   refine fa a5U rfl (lv (y9 E6 rfl ak (bI 0 _ rfl)) ?_)
   obtain⟨i,T,bJ⟩:=ob bz
   obtain⟨cG,aB⟩:=SH.rowI_at ak m1 hm106 T
   obtain⟨cH,bK,bL⟩:=E1.at hrow105 T
   obtain⟨rfl,cI,bM⟩:=bK
   have bN: ∀(j:Nat) (d:Value),[V6 i.Last,V6 i.Most][j]? =some d→cs104[(z8 ((m.length:Int)-(1:Int))).toNat*m8.size+j]? =some d:=bL
   refine lv (a5Q (t:=m8) underlying123 a6L rfl rfl aB hm106 T) (fa c1k rfl (c1e (t:=m8) (off:=0) (ds:=[V6 i.Last,V6 i.Most]) (v:=V6 o.Doc) (u:=.agg #[V6 o.Doc,V6 i.Most]) (e:=(g6.mk o.Doc i.Most)) wn E6 rfl rfl rfl rfl (by simp [Value.cells,Value.oneCell']) aB ak.f1 hrow105 hm106 T bN rfl rfl ⟨rfl,bH,bM⟩ fun cs155 cJ hrow157 hm158 U=>?_))
   have bO:=c1Q (e:=(g6.mk o.Doc i.Most)) T
   obtain⟨cK,bP,bQ⟩:=E1.at hrow157 bO
   obtain⟨rfl,cL,cM⟩:=bP
   have cN: ∀(j:Nat) (d:Value),[V6 ((g6.mk o.Doc i.Most).Last),V6 ((g6.mk o.Doc i.Most).Most)][j]? =some d→cs155[(z8 ((m.length:Int)-(1:Int))).toNat*m8.size+j]? =some d:=bQ
   refine nr (mv rfl (mv rfl (mv rfl ?_)))
   obtain⟨aC,am,bR⟩:=ob bJ
   obtain⟨cO,aD⟩:=SH.rowI_at U m0 hm158 am
   obtain⟨cP,bS,bT⟩:=E1.at hrow157 am
   obtain⟨rfl,cQ,cR⟩:=bS
   have bU: ∀(j:Nat) (d:Value),[V6 aC.Last,V6 aC.Most][j]? =some d→cs155[(z8 ((m.length:Int)-(1:Int))).toNat*m8.size+j]? =some d:=bT
   refine lv (a5Q (t:=m8) underlying123 a6L rfl rfl aD hm158 am) (fa c2I rfl (lv (a4Y E6 rfl rfl (bU 1 _ rfl) aD (SH.hasRow U (.head _))) (lv (E7 rfl rfl) (nq (D5 bR rfl (fun bV an=>?_) (fun bV an=>?_))))))
   ·refine j5 (mv rfl (mv rfl (mv rfl ?_)))
    obtain⟨k,V,bW⟩:=ob an
    obtain⟨cS,aE⟩:=SH.rowI_at U m0 hm158 V
    obtain⟨cT,bX,bY⟩:=E1.at hrow157 V
    obtain⟨rfl,bZ,cU⟩:=bX
    have ca: ∀(j:Nat) (d:Value),[V6 k.Last,V6 k.Most][j]? =some d→cs155[(z8 ((m.length:Int)-(1:Int))).toNat*m8.size+j]? =some d:=bY
    refine lv (a5Q (t:=m8) underlying123 a6L rfl rfl aE hm158 V) (fa c2I rfl (c1e (t:=m8) (off:=1) (ds:=[V6 k.Last,V6 k.Most]) (v:=V6 l) (u:=.agg #[V6 k.Last,V6 l]) (e:=(g6.mk k.Last l)) wn E6 rfl rfl rfl rfl (by simp [Value.cells,Value.oneCell']) aE U hrow157 hm158 V ca rfl rfl ⟨rfl,bZ,bf⟩ fun cs191 cV hrow193 hm194 cb=>?_))
    have cc:=c1Q (e:=(g6.mk k.Last l)) V
    obtain⟨cW,cd,ce⟩:=E1.at hrow193 cc
    obtain⟨rfl,cX,cY⟩:=cd
    have cZ: ∀(j:Nat) (d:Value),[V6 ((g6.mk k.Last l).Last),V6 ((g6.mk k.Last l).Most)][j]? =some d→cs191[(z8 ((m.length:Int)-(1:Int))).toNat*m8.size+j]? =some d:=ce
    refine nb (l5 (j5 (mv rfl (lv (y7 rfl rfl) (av rfl (i8 ?_))))))
    cases oi bW
    exact qd ⟨_,rfl,R,x,S,cs191,y,rfl,cb.f1,((f.trans O).trans al),hrow193,hm194,(u0 _)⟩
   refine j3 (x8 (l5 (j5 (mv rfl (lv (y7 rfl rfl) (av rfl (i8 ?_)))))))
   cases oi an
   exact qd ⟨_,rfl,R,x,S,cs155,y,rfl,U.f1,((f.trans O).trans al),hrow157,hm158,(u0 _)⟩
  refine y4 (g8 (g8 ?_))
  cases oi ai
  cases aQ _ rfl
  refine l6 ?_
  cases oi aO
  exact qd ⟨H,s,I,cs55,J,rfl,ah.s,f,hrow56,hm57⟩
 rintro _ da ⟨W,G,X,cs41,Y,rfl,cf,db,hrow42,hm43⟩
 refine qr (mv rfl (av rfl (nq (j9 ?_))))
 obtain⟨cg,dc,ch,cj⟩:=SH.freezeI cf hrow42 hm43
 cases oi aM
 exact ey results141 ⟨W,G,X,cg,rfl,cj,ch⟩

theorem c7A {q0:List g6}{q1:Int}{r:Int}(hS:SH w K [] w K [])(i:b7 m8 K A a b q0)(ah:i7 q1)(hm:a4v F q0 q1=some r):
  Calls prog 142 #[V3 A a b,V6 q1] w (R_i w K r):=by
 rw [a4v] at hm
 refine ci func142 rfl ntmps142 (sr (lv (N2 rfl) (O7 (lv (N2 rfl) (nq ?_)))))
 obtain⟨B,C,f⟩:=ob hm
 refine l4 (IE B w K [] K [] []) ?_ ?_
 ·refine j7 ?_
  obtain⟨ai,D,q⟩:=ob C
  refine qw (fun (k:Int)=>IW w K [] K [(0,V3 A a b),(1,V6 q1),(5,V6 k)] [] (i7 k)) D ⟨K,rfl,hS,kr,I5⟩ ?_
  rintro k _ aj ak G s ⟨l,rfl,c,d,al⟩
  refine o4 (sr (mv rfl (mv rfl (lv (q9 underlying123 rfl (i.mono d)) (lv (u7 rfl rfl) (nq (D5 G rfl (fun H m=>?_) (fun H m=>?_))))))))
  ·refine j3 (qs (j7 (sr (mv rfl (mv rfl (mv rfl ?_))))))
   obtain⟨x,I,J⟩:=ob m
   refine li underlying123 a6L (i.mono d) I fun O R am S T=>?_
   obtain⟨rfl,an,ao⟩:=S
   have U:F1 _ O R [V6 x.Last,V6 x.Most]:=T
   refine fa c1k rfl (lv (y9 E6 rfl c (U 0 _ rfl)) (lv (V2 rfl rfl) (nq (D5 J rfl (fun V o=>?_) (fun V o=>?_)))))
   ·refine sr (mv rfl (mv rfl ?_))
    obtain⟨y,W,X⟩:=ob o
    refine li underlying123 a6L (i.mono d) W fun Y aa ap ab ac=>?_
    obtain⟨rfl,aq,ad⟩:=ab
    have ae:F1 _ Y aa [V6 y.Last,V6 y.Most]:=ac
    refine fa c2I rfl (lv (y9 E6 rfl c (ae 1 _ rfl)) (av rfl (nq (j9 (i9 (c9 (c9 ?_)))))))
    cases oi X
    cases s _ rfl
    refine i9 (c9 ?_)
    cases oi q
    refine c9 ?_
    cases oi f
    exact ey results142 ⟨l,rfl,c,ad⟩
   refine j3 (x8 (l5 (j5 (mv rfl (lv (y7 rfl rfl) (av rfl (i8 ?_)))))))
   cases oi o
   exact qd ⟨_,rfl,l,rfl,c,d,(u0 _)⟩
  refine y4 (g8 (g8 ?_))
  cases oi m
  cases s _ rfl
  refine l6 ?_
  cases oi q
  exact L6 ⟨_,l,rfl,rfl,c,d⟩ trivial
 rintro _ ar ⟨s9,af,rfl,rfl,ag,aw⟩
 have f:=E9 f
 refine qr (lv (N2 rfl) (nq (j9 ?_)))
 cases oi f
 exact ey results142 ⟨af,rfl,ag,I5⟩

theorem c7z {q0:u6}{q1:A5}{q2:r4}{q3:List r4}{q4:Int}{r:(List E3)×Int}(hS:SH w K [] w K [])(ek:b7 D9 K A a b q0.Stops)(el:b7 L0 K B c d q0.Syns)(ay:b7 F6 K C f i q1.Docs)(bc:b7 B8 K D k l q1.Entries)(bd:q2.length≤maxLen)(ak:b7 D9 K G m n q3)(bv:i7 q4)(hm:a38 F q0 q1 q2 q3 q4=some r):
  Calls prog 90 #[.agg #[V3 A a b,V3 B c d],.agg #[V3 C f i,V3 D k l],sv q2,V3 G m n,V6 q4] w fun e w'=>∃a_1 n_2 c_3 K',e= .returned (.tuple #[V3 a_1 n_2 c_3,V6 r.2])∧SH w K [] w' K' []∧b7 Q0 K' a_1 n_2 c_3 r.1∧i7 r.2:=by
 rw [a38] at hm
 refine ci func90 rfl ntmps90 (sr (bx rfl hS fun bz em bA=>?_))
 have bB:SH _ _ _ _ _ [s7 bz [V3 A a b,V3 B c d] 26]:=bA
 refine bx rfl bB fun o en bC=>?_
 have bD:SH _ _ _ _ _ [s7 o [V3 C f i,V3 D k l] 30,_]:=bC
 refine lv (r_n rfl) (lv (N2 rfl) (nr (b0 Q0 underlying57 Q2 bD fun am eo ep T bE bF=>(av rfl (nr (lv (N2 rfl) (nr (a6j (X2 m8) wn rfl underlying122 c3K bF fun bG eq aN I bH bI=>(av rfl ?_)))))))))
 refine O7 (lv (N2 rfl) (nq ?_))
 obtain⟨bJ,bK,bL⟩:=ob hm
 refine l4 (fun E' w'=>∃q s x ab,E'=[(2,sv q2),(3,V3 G m n),(4,V6 q4),(6,pt o),(12,V3 am 0 0),(13,V6 0),(14,V3 q s x)]∧SH w K [] w' ab [s7 o [V3 C f i,V3 D k l] 30,tail (V3 am 0 0) 71 2,tail (V3 q s x) 123 1]∧M0 aN ab∧b7 (X2 m8) ab q s x bJ) ?_ ?_
 ·refine j7 ?_
  obtain⟨es,bM,bN⟩:=ob bK
  have bO:=bI.f1.f2.sb (sk (sk (sk (sd sz))))
  refine qw (fun (az:(List (List g6))×Int) E' w'=>∃an ao ap ad,E'=[(2,sv q2),(3,V3 G m n),(4,V6 q4),(6,pt o),(12,V3 am 0 0),(13,V6 0),(14,V3 an ao ap),(15,V6 az.2)]∧SH w K [] w' ad [s7 o [V3 C f i,V3 D k l] 30,tail (V3 am 0 0) 71 2,tail (V3 an ao ap) 123 1]∧M0 aN ad∧b7 (X2 m8) ad an ao ap az.1∧i7 az.2) bM ⟨bG,0,0,aN,rfl,bO,kr,bH,I5⟩ ?_
  rintro az _ et eu bP bQ ⟨an,ao,ap,ad,rfl,be,ae,bf,ev⟩
  refine o4 (sr (mv rfl (mv rfl (lv (q9 underlying23 rfl (ak.mono ((T.trans I).trans ae))) (lv (u7 rfl rfl) (nq (D5 bP rfl (fun bR aO=>?_) (fun bR aO=>?_))))))))
  ·refine j3 (qs (j7 ?_))
   have aA:=be.drew
   refine wh1 (fun w'=>H0 ad w'∧B0 o [V3 C f i,V3 D k l] w') (fun w'=>True) 11 [] mixed ⟨aA.hasK kr,aA.hasObj m0⟩ (fun _=>trivial) (gt (i5 rfl) (gh (fun _ h=>A0 (ds:=[V3 C f i,V3 D k l]) C4 rfl rfl rfl h.2) (gt (i5 rfl) (gt (i5 rfl) (gt (i5 rfl) ?_)))))
   obtain⟨bS,bT,bU⟩:=ob aO
   refine gi underlying23 G7 (ak.mono ((T.trans I).trans ae)) bT fun bV bW ew bX bY=>?_
   obtain⟨rfl,bZ⟩:=bX
   have ca:F1 _ bV bW [sv bS]:=bY
   refine gh (fun _ h=>a0Y G7 rfl (ca 0 _ rfl) h.1) (gn ?_)
   obtain⟨cb,cc,cd⟩:=ob bU
   refine lk c9h (c6R F aA.enter0 (ay.mono ((T.trans I).trans ae)) (bc.mono ((T.trans I).trans ae)) bd bZ cc) ?_
   rintro ex eA ⟨bg,bh,bi,eB,rfl,af,ce⟩
   have aP:=(aA.c0 af).t4
   refine i8 (qh ⟨aP.hasK af.le,aP.hasObj m1⟩ (fun _=>trivial) (gn (lb (X2 m8) (V3 bg bh bi) [V3 bg bh bi] cb underlying122 c3K ⟨_,_,_,rfl,ce⟩ aP fun eC eD eE aB cf aQ=>(i8 (qh ⟨aQ.hasK (af.le.trans aB),aQ.hasObj m2⟩ (fun _=>trivial) (gn ?_))))))
   obtain⟨eF,cg,ch⟩:=ob cd
   refine lp underlying122 c3K (bf.mono (af.le.trans aB)) cf cg aQ.f4 fun cj ck cl eG cm bj cn aR=>(i8 (qh ⟨aR.hasK ((af.le.trans aB).trans bj),aR.hasObj m3⟩ (fun _=>trivial) (gt (u9 rfl) (gd' (x8 (l5 (j5 (mv rfl (lv (y7 rfl rfl) (av rfl ?_))))))))))
   refine i8 ?_
   cases oi ch
   exact qd ⟨_,rfl,cj,ck,cl,cm,rfl,aR.f4.f4.s,(((ae.trans af.le).trans aB).trans bj),cn,(u0 _)⟩
  refine y4 (g8 (g8 ?_))
  cases oi aO
  cases bQ _ rfl
  refine l6 ?_
  cases oi bN
  exact qd ⟨an,ao,ap,ad,rfl,be,ae,bf⟩
 rintro _ eH ⟨q,s,x,ab,rfl,cp,Y,cq⟩
 refine qs (sr (lv (N2 rfl) (nq ?_)))
 obtain⟨aS,cr,ct⟩:=ob bL
 refine l4 (fun E' w'=>∃aC aD aE aq,E'=[(12,V3 aC aD aE),(13,V6 aS.2)]∧SH w K [] w' aq []∧M0 ab aq∧b7 Q0 aq aC aD aE aS.1∧i7 aS.2) ?_ ?_
 ·refine j7 ?_
  obtain⟨eI,cu,cv⟩:=ob cr
  have cw:=cp.sb (sk (sd (sk sz)))
  refine qw (fun (y:(List E3)×Int×Int) E' w'=>∃U V W aa,E'=[(2,sv q2),(3,V3 G m n),(4,V6 q4),(6,pt o),(12,V3 U V W),(13,V6 y.2.1),(14,V3 q s x),(16,V6 y.2.2)]∧SH w K [] w' aa [s7 o [V3 C f i,V3 D k l] 30,tail (V3 q s x) 123 1]∧M0 ab aa∧b7 Q0 aa U V W y.1∧i7 y.2.1∧i7 y.2.2) cu ⟨am,0,0,ab,rfl,cw,kr,(bE.mono (I.trans Y)),I5,I5⟩ ?_
  rintro y _ eJ eK cx cy ⟨U,V,W,aa,rfl,ar,J,ag,bk,eL⟩
  refine o4 (sr (mv rfl (fl L3 rfl a1b m0 ar rfl (lv (q9 underlying27 rfl (b7.mono (((T.trans I).trans Y).trans J) ay)) (lv (u7 rfl rfl) (nq (D5 cx rfl (fun cz aT=>?_) (fun cz aT=>?_))))))))
  ·refine j3 (qs (j7 (sr (fl L3 rfl a1b m0 ar rfl (mv rfl ?_)))))
   obtain⟨ac,cA,cB⟩:=ob aT
   refine li underlying27 E8 (b7.mono (((T.trans I).trans Y).trans J) ay) cA fun cC cD eM cE cF=>?_
   obtain⟨cG,cH,cI,cJ,cK,cL,rfl,aU,eN,eO⟩:=cE
   have cM:F1 _ cC cD [V6 ac.Id,V3 cG cH cI,V3 cJ cK cL]:=cF
   refine fa P6 rfl (lv (y9 E6 rfl ar (cM 0 _ rfl)) (av rfl (nr (lv (N2 rfl) (O7 (lv (N2 rfl) (nq ?_)))))))
   obtain⟨bl,cN,cO⟩:=ob cB
   refine l4 (IW w K [] aa [(2,sv q2),(3,V3 G m n),(4,V6 q4),(6,pt o),(12,V3 U V W),(13,V6 y.2.1),(14,V3 q s x),(16,V6 y.2.2),(17,V6 ac.Id),(18,V6 bl)] [s7 o [V3 C f i,V3 D k l] 30,tail (V3 q s x) 123 1] (i7 bl)) ?_ ?_
   ·refine j7 ?_
    obtain⟨eP,cP,cQ⟩:=ob cN
    refine qw (fun (au:Int×Int)=>IW w K [] aa [(2,sv q2),(3,V3 G m n),(4,V6 q4),(6,pt o),(12,V3 U V W),(13,V6 y.2.1),(14,V3 q s x),(16,V6 y.2.2),(17,V6 ac.Id),(18,V6 au.1),(19,V6 au.2)] [s7 o [V3 C f i,V3 D k l] 30,tail (V3 q s x) 123 1] (i7 au.1∧i7 au.2)) cP ⟨aa,rfl,ar,kr,I5,I5⟩ ?_
    rintro au _ eQ eR cR cS ⟨cT,rfl,aF,aG,cU,eS⟩
    refine o4 (sr (mv rfl (mv rfl (lv (q9 underlying23 rfl (b7.mono ((((T.trans I).trans Y).trans J).trans aG) ak)) (lv (u7 rfl rfl) (nq (D5 cR rfl (fun cV aV=>?_) (fun cV aV=>?_))))))))
    ·refine j3 (qs (j7 (j5 (mv rfl (mv rfl (mv rfl ?_))))))
     obtain⟨eT,cW,cX⟩:=ob aV
     refine li underlying122 c3K (cq.mono (J.trans aG)) cW fun cY cZ eU da db=>?_
     obtain⟨dc,dd,de,rfl,df⟩:=da
     have dg:F1 _ cY cZ [V3 dc dd de]:=db
     refine lv (y9 c3K rfl aF (dg 0 _ rfl)) (mv rfl ?_)
     obtain⟨eV,dh,di⟩:=ob cX
     refine lk c9i (c7A F aF.enter0 df aU dh) ?_
     rintro eW eX ⟨dj,rfl,bm,eY⟩
     have dk:=(aF.c0 bm).t2
     refine lv (y7 rfl rfl) (av rfl (nb (l5 (j5 (mv rfl (lv (y7 rfl rfl) (av rfl (i8 ?_))))))))
     cases oi di
     exact qd ⟨_,rfl,dj,rfl,dk,(aG.trans bm.le),(u0 _),(u0 _)⟩
    refine y4 (g8 (g8 ?_))
    cases oi aV
    cases cS _ rfl
    refine l6 ?_
    cases oi cQ
    exact qd ⟨cT,rfl,aF,aG,cU⟩
   rintro _ eZ ⟨aH,rfl,aI,O,fb⟩
   refine qs (o4 ?_)
   obtain⟨dl,dm,dn⟩:=ob cO
   refine l4 (IV w K [] aH [(2,sv q2),(3,V3 G m n),(4,V6 q4),(6,pt o),(12,V3 U V W),(13,V6 y.2.1),(14,V3 q s x),(16,V6 y.2.2),(17,V6 ac.Id),(84,.bool dl)] [s7 o [V3 C f i,V3 D k l] 30,tail (V3 q s x) 123 1]) ?_ ?_
   ·refine j5 (mv rfl (lv (A9 rfl rfl) (mv rfl (bt dm (fun H aW=>?_) (fun H aW=>?_)))))
    ·iterate 5 refine lu H ?_
     refine A8 (uu rfl rfl) rfl (A8 (uu rfl rfl) rfl (A8 (uu rfl rfl) rfl (A8 (uu rfl rfl) rfl (A8 (uu rfl rfl) rfl (A8 (uu rfl rfl) rfl (A8 (uu rfl rfl) rfl (A8 (uu rfl rfl) rfl (lu H (lv (J6 rfl H rfl) ?_)))))))))
     refine i8 ?_
     cases oi aW
     exact qd ⟨aH,rfl,aI,kr⟩
    refine lg H (i5 rfl) (lg H (q9 underlying57 rfl (ag.mono O)) (lg H (i5 rfl) (lg H (A9 rfl rfl) (lg H (i5 rfl) (bt aW (fun R aX=>?_) (fun R aX=>?_))))))
    ·refine lg R (i5 rfl) (lg R (i5 rfl) (lg R (i5 rfl) (lg R (I6 rfl rfl) ?_)))
     obtain⟨bn,dp,dq⟩:=ob aX
     refine N1 (t:=Q0) (wg rfl rfl R) rfl underlying57 Q2 rfl rfl (ag.mono O) dp fun dr dt fc du dv=>?_
     obtain⟨rfl,fd,fe⟩:=du
     have dw:F1 _ dr dt [V6 bn.Doc,V6 bn.Points]:=dv
     refine lg R (c7 a4O rfl) (lg R (y9 E6 rfl aI (dw 1 _ rfl)) (lg R (V2 rfl rfl) (lg H (n9 rfl R rfl) (lv (l9 rfl H rfl) (i8 ?_)))))
     cases oi dq
     exact qd ⟨aH,rfl,aI,kr⟩
    iterate 8 refine lu R ?_
    refine lg H (L8 rfl R rfl) (lv (l9 rfl H rfl) (i8 ?_))
    cases oi aX
    exact qd ⟨aH,rfl,aI,kr⟩
   rintro _ fg ⟨aJ,rfl,bo,X⟩
   refine l5 (D5 dn rfl (fun dx aY=>?_) (fun dx aY=>?_))
   ·refine y4 (g8 (l6 (l5 (j5 (mv rfl (lv (y7 rfl rfl) (av rfl (i8 ?_))))))))
    cases oi aY
    exact qd ⟨_,rfl,U,V,W,aJ,rfl,bo,((J.trans O).trans X),(ag.mono (O.trans X)),bk,(u0 _)⟩
   refine j3 (qr (mv rfl (lv (y7 rfl rfl) (av rfl (nr (mv rfl (lv (C3 (cs:=#[V6 ac.Id,V6 0]) c3D Q2 rfl (by kernel_rfl)) (al Q2 bo fun ah fh dy=>?_))))))))
   have dz:SH _ _ _ _ _ [s7 ah [V6 0,V6 0] 71,_,_]:=dy
   refine lw [V6 ac.Id,V6 0] Q2 dz fun fi dA=>(O7 (lv (N2 rfl) (nq ?_)))
   obtain⟨ai,dB,dC⟩:=ob aY
   refine l4 (IW w K [] aJ [(2,sv q2),(3,V3 G m n),(4,V6 q4),(6,pt o),(12,V3 U V W),(13,V6 (z8 (y.2.1+(1:Int)))),(14,V3 q s x),(16,V6 y.2.2),(20,pt ah)] [s7 o [V3 C f i,V3 D k l] 30,s7 ah [V6 ai.Doc,V6 ai.Points] 71,tail (V3 q s x) 123 1] (i7 ai.Doc∧i7 ai.Points)) ?_ ?_
   ·refine j7 ?_
    obtain⟨fj,dD,dE⟩:=ob dB
    refine qw (fun (S:Int×E3)=>IW w K [] aJ [(2,sv q2),(3,V3 G m n),(4,V6 q4),(6,pt o),(12,V3 U V W),(13,V6 (z8 (y.2.1+(1:Int)))),(14,V3 q s x),(16,V6 y.2.2),(17,V6 ac.Id),(20,pt ah),(21,V6 S.1)] [s7 o [V3 C f i,V3 D k l] 30,s7 ah [V6 S.2.Doc,V6 S.2.Points] 71,tail (V3 q s x) 123 1] (i7 S.1∧i7 S.2.Doc∧i7 S.2.Points)) dD ⟨aJ,rfl,dA.f2.f1.f2,kr,I5,aU,I5⟩ ?_
    rintro S _ fk fm dF dG ⟨bp,rfl,bq,aj,fn,br,dH⟩
    refine o4 (sr (mv rfl (mv rfl (lv (q9 underlying23 rfl (b7.mono ((((((T.trans I).trans Y).trans J).trans O).trans X).trans aj) ak)) (lv (u7 rfl rfl) (nq (D5 dF rfl (fun dI aZ=>?_) (fun dI aZ=>?_))))))))
    ·refine j3 (qs (j7 ?_))
     have aw:=bq.drew
     refine wh1 (fun w'=>H0 bp w'∧B0 o [V3 C f i,V3 D k l] w') (fun w'=>B0 ah [V6 S.2.Doc,V6 S.2.Points] w') 12 [(1,10),(1,11),(1,12),(10,11),(10,12),(11,12)] mixed ⟨aw.hasK kr,aw.hasObj m0⟩ (fun _=>aw.hasObj (.tail _ (.head _))) (gt (c7 a4O rfl) (gf (fun _ h=>B5 E6 rfl rfl h) (gh (fun _ h=>A0 (ds:=[V3 C f i,V3 D k l]) C4 rfl rfl rfl h.2) (gt (i5 rfl) (gt (i5 rfl) (gt (i5 rfl) ?_))))))
     obtain⟨dJ,dK,dL⟩:=ob aZ
     refine gi underlying23 G7 (b7.mono ((((((T.trans I).trans Y).trans J).trans O).trans X).trans aj) ak) dK fun dM dN fo dO dP=>?_
     obtain⟨rfl,dQ⟩:=dO
     have dR:F1 _ dM dN [sv dJ]:=dP
     refine gh (fun _ h=>a0Y G7 rfl (dR 0 _ rfl) h.1) (gt (i5 rfl) (gn ?_))
     obtain⟨bs,dS,dT⟩:=ob dL
     refine lk c1y (a0W F aw.enter0 (b7.mono ((((((T.trans I).trans Y).trans J).trans O).trans X).trans aj) ay) (b7.mono ((((((T.trans I).trans Y).trans J).trans O).trans X).trans aj) bc) bd dQ aU dS) ?_
     rintro fp fq ⟨dU,rfl,aK,fr⟩
     have aL:=(aw.c0 aK).t3
     refine i8 (qh ⟨aL.hasK aK.le,aL.hasObj m0⟩ (fun _=>aL.hasObj (.tail _ (.head _))) (gt (y7 rfl rfl) (gt (c7 a4O rfl) (gn (ls [V6 S.2.Doc,V6 (z8 (S.2.Points+bs))] (V6 (z8 (S.2.Points+bs))) E6 aL.f1 fun fs ba=>(i8 (qh ⟨ba.hasK aK.le,ba.hasObj m1⟩ (fun h=>by cases h) (gd' (x8 (l5 (j5 ?_)))))))))))
     refine mv rfl (lv (y7 rfl rfl) (av rfl (i8 ?_)))
     cases oi dT
     exact qd ⟨_,rfl,dU,rfl,ba.f2.f1.f2,(aj.trans aK.le),(u0 _),br,(u0 _)⟩
    refine y4 (g8 (g8 ?_))
    cases oi aZ
    cases dG _ rfl
    refine l6 ?_
    cases oi dE
    exact qd ⟨bp,rfl,bq,aj,br,dH⟩
   rintro _ ft ⟨dV,rfl,ax,aM,dW,dX⟩
   refine qr (fl a4O rfl E6 m1 ax rfl (lv (E7 rfl rfl) (nq (D5 dC rfl (fun dY bb=>?_) (fun dY bb=>?_)))))
   ·refine j5 (mv rfl (lv (j6 (ds:=[V6 ai.Doc,V6 ai.Points]) Q2 rfl m1 ax rfl rfl) (mv rfl ?_)))
    obtain⟨fu,dZ,ea⟩:=ob bb
    refine lk c5r (b2J F ax.enter0 (ag.mono ((O.trans X).trans aM)) dW dX bv dZ) ?_
    rintro fv fw ⟨eb,ec,ed,ee,rfl,bu,ef⟩
    have eg:=(ax.c0 bu).t3
    refine av rfl (nb (l5 (j5 (mv rfl (lv (y7 rfl rfl) (av rfl (i8 ?_)))))))
    cases oi ea
    exact qd ⟨_,rfl,eb,ec,ed,ee,rfl,eg.s,((((J.trans O).trans X).trans aM).trans bu.le),ef,(u0 _),(u0 _)⟩
   refine j3 (x8 (l5 (j5 (mv rfl (lv (y7 rfl rfl) (av rfl (i8 ?_)))))))
   cases oi bb
   exact qd ⟨_,rfl,U,V,W,dV,rfl,ax.s,(((J.trans O).trans X).trans aM),(ag.mono ((O.trans X).trans aM)),(u0 _),(u0 _)⟩
  refine y4 (g8 (g8 ?_))
  cases oi aT
  cases cy _ rfl
  refine l6 ?_
  cases oi cv
  exact qd ⟨U,V,W,aa,rfl,ar.s,J,ag,bk⟩
 rintro _ fx ⟨aC,aD,aE,aq,rfl,eh,fy,ei,ej⟩
 refine qr (mv rfl (mv rfl (av rfl (av rfl (nq (j9 ?_))))))
 cases oi ct
 exact S7 (vs:=[_,_]) results90 ⟨rfl,rfl,trivial⟩ ⟨aC,aD,aE,aq,rfl,eh,ei,ej⟩

theorem c7q {q0:u6}{q1:A5}{q2:r4}{q3:List r4}{q4:Int}{r:(List E3)×Int}(hS:SH w K [] w K [])(ab:b7 D9 K A a b q0.Stops)(ac:b7 L0 K B c d q0.Syns)(aE:b7 F6 K C f i q1.Docs)(aF:b7 B8 K D k l q1.Entries)(aG:q2.length≤maxLen)(am:b7 D9 K G m n q3)(aH:i7 q4)(hm:a0D F q0 q1 q2 q3 q4=some r):
  Calls prog 27 #[.agg #[V3 A a b,V3 B c d],.agg #[V3 C f i,V3 D k l],sv q2,V3 G m n,V6 q4] w fun e w'=>∃a_1 n_2 c_3 K',e= .returned (.tuple #[V3 a_1 n_2 c_3,V6 r.2])∧SH w K [] w' K' []∧b7 Q0 K' a_1 n_2 c_3 r.1∧i7 r.2:=by
 rw [a0D] at hm
 refine ci func27 rfl ntmps27 (sr (bx rfl hS fun x ct aS=>?_))
 have aT:SH _ _ _ _ _ [s7 x [V3 A a b,V3 B c d] 26]:=aS
 refine bx rfl aT fun y cu aU=>?_
 have ad:SH _ _ _ _ _ [s7 y [V3 C f i,V3 D k l] 30,_]:=aU
 refine lv (r_n rfl) (lv (N2 rfl) (ns (o4 ?_)))
 obtain⟨aV,aW,aX⟩:=ob hm
 refine l4 (IV w K [] K [(2,sv q2),(3,V3 G m n),(4,V6 q4),(5,pt x),(6,pt y),(33,.bool aV)] [s7 x [V3 A a b,V3 B c d] 26,s7 y [V3 C f i,V3 D k l] 30]) ?_ ?_
 ·refine j5 (lv (j6 (ds:=[V3 A a b,V3 B c d]) B9 rfl m1 ad rfl rfl) (lv (j6 (ds:=[V3 C f i,V3 D k l]) C4 rfl m0 ad rfl rfl) ?_))
  obtain⟨cv,aY,aZ⟩:=ob aW
  refine lk c2R (a5K F ad.enter0 ab ac aE aF aY) ?_
  rintro cw cx ⟨ba,rfl,U⟩
  have an:=(ad.c0 U).t2
  refine lv (A4 rfl) (mv rfl (bt aZ (fun H ao=>?_) (fun H ao=>?_)))
  ·refine lu H (lu H (lu H (lv (J6 rfl H rfl) (mv rfl (lu rfl (lu rfl (lu rfl (lv (J6 rfl rfl rfl) (mv rfl ?_)))))))))
   refine lu rfl (lu rfl (lu rfl (lv (J6 rfl rfl rfl) (i8 ?_))))
   cases oi ao
   exact qd ⟨ba,rfl,an.f1,U.le⟩
  refine lg H (i5 rfl) ?_
  obtain⟨cy,bb,bc⟩:=ob ao
  refine A3 (wg rfl rfl H) rfl (A2 (vs:=[sv q2]) b0m rfl) (H9 F an.enter0 aG bb) ?_
  rintro cz cA ⟨bd,rfl,V⟩
  refine⟨_,rfl,?_⟩
  have ap:=(an.c0 V).t2
  refine lg H (A4 rfl) (lv (l9 rfl H rfl) (mv rfl (bt bc (fun I aq=>?_) (fun I aq=>?_))))
  ·refine lu I (lu I (lu I (lv (J6 rfl I rfl) (mv rfl (lu rfl (lu rfl (lu rfl (lv (J6 rfl rfl rfl) (i8 ?_)))))))))
   cases oi aq
   exact qd ⟨bd,rfl,ap.f1,(U.le.trans V.le)⟩
  refine lg I (i5 rfl) ?_
  obtain⟨cB,be,bf⟩:=ob aq
  refine A3 (wg rfl rfl I) rfl (A2 (vs:=[V3 G m n,V6 4]) c4C rfl) (a4V F ap.enter0 (am.mono (U.le.trans V.le)) (by decide :i7 4) be) ?_
  rintro cC cD ⟨bg,rfl,ar⟩
  refine⟨_,rfl,?_⟩
  have au:=(ap.c0 ar).t2
  refine lg I (A4 rfl) (lv (l9 rfl I rfl) (mv rfl (bt bf (fun J aw=>?_) (fun J aw=>?_))))
  ·refine lu J (lu J (lu J (lv (J6 rfl J rfl) (i8 ?_))))
   cases oi aw
   exact qd ⟨bg,rfl,au.f1,((U.le.trans V.le).trans ar.le)⟩
  refine lg J (i5 rfl) ?_
  obtain⟨cE,bh,bi⟩:=ob aw
  refine A3 (wg rfl rfl J) rfl (A2 (vs:=[V6 q4,V6 1,V6 16]) a7T rfl) (I9 F au.enter0 aH (by decide :i7 1) (by decide :i7 16) bh) ?_
  rintro cF cG ⟨bj,rfl,aI⟩
  refine⟨_,rfl,?_⟩
  have bk:=(au.c0 aI).t2
  refine lg J (A4 rfl) (lv (l9 rfl J rfl) (i8 ?_))
  cases oi bi
  exact qd ⟨bj,rfl,bk.f1,(((U.le.trans V.le).trans ar.le).trans aI.le)⟩
 rintro _ cH ⟨bl,rfl,aJ,q⟩
 refine l5 (D5 aX rfl (fun bm ax=>?_) (fun bm ax=>?_))
 ·refine sr (lv (r_n rfl) (lv (u9 (v:=V6 (-1)) rfl) (nq (rr ?_))))
  cases oi ax
  exact S7 (vs:=[_,_]) results27 ⟨rfl,rfl,trivial⟩ ⟨none,0,0,bl,rfl,aJ.s,(b7.nil _ _),(by decide :i7 (-1))⟩
 refine j3 (qr (b0 D9 underlying23 G7 aJ fun bn cI ay s bo bp=>(av rfl (O7 (lv (N2 rfl) (nq ?_))))))
 obtain⟨bq,br,bs⟩:=ob ax
 refine l4 (fun E' w'=>∃ae af ag ah,E'=[(2,sv q2),(4,V6 q4),(5,pt x),(6,pt y),(12,V3 ae af ag)]∧SH w K [] w' ah [s7 x [V3 A a b,V3 B c d] 26,s7 y [V3 C f i,V3 D k l] 30,tail (V3 ae af ag) 9 1]∧M0 ay ah∧b7 D9 ah ae af ag bq) ?_ ?_
 ·refine j7 ?_
  obtain⟨cJ,bu,bv⟩:=ob br
  refine qw (fun (W:(List r4)×Int) E' w'=>∃O R S X,E'=[(2,sv q2),(3,V3 G m n),(4,V6 q4),(5,pt x),(6,pt y),(12,V3 O R S),(13,V6 W.2)]∧SH w K [] w' X [s7 x [V3 A a b,V3 B c d] 26,s7 y [V3 C f i,V3 D k l] 30,tail (V3 O R S) 9 1]∧M0 ay X∧b7 D9 X O R S W.1∧i7 W.2) bu ⟨bn,0,0,ay,rfl,bp.f2.f2,kr,bo,I5⟩ ?_
  rintro W _ cK cL bz bA ⟨O,R,S,X,rfl,az,T,ai,cM⟩
  refine o4 (sr (mv rfl (mv rfl (lv (q9 underlying23 rfl (am.mono ((q.trans s).trans T))) (lv (u7 rfl rfl) (nq (D5 bz rfl (fun bB aA=>?_) (fun bB aA=>?_))))))))
  ·refine j3 (qs (j7 (o4 (D4 mixed (by kernel_rfl) az (kh (D8 (ds:=[V3 A a b,V3 B c d]) B9 rfl m0 rfl rfl) (km rfl (km rfl ?_)))))))
   obtain⟨bC,bD,bE⟩:=ob aA
   refine ki underlying23 G7 (am.mono ((q.trans s).trans T)) bD fun bF bG cN bH bI=>?_
   obtain⟨rfl,aK⟩:=bH
   have bJ:F1 _ bF bG [sv bC]:=bI
   refine kh (C1 G7 rfl (bJ 0 _ rfl)) ?_
   obtain⟨Y,aL,bK⟩:=ob bE
   refine kd c67 (fun _ _ bL aM=>(a8x F) bL.enter0 (b7.mono (((q.trans s).trans T).trans aM) ab) (b7.mono (((q.trans s).trans T).trans aM) ac) aK aL) ?_
   obtain⟨_,_,_,⟨_,_,_,aN⟩,_⟩:=(a8x F) az.enter0 (ab.mono ((q.trans s).trans T)) (ac.mono ((q.trans s).trans T)) aK aL []
   refine kv (u9 rfl) (B4 ?_)
   rintro cO ⟨aO,aB,aa⟩
   refine qs ?_
   obtain⟨bM,bN,bO⟩:=ob bK
   refine l4 (IV w K [] aO [(2,sv q2),(3,V3 G m n),(4,V6 q4),(5,pt x),(6,pt y),(12,V3 O R S),(13,V6 W.2),(14,sv Y),(54,.bool bM)] [s7 x [V3 A a b,V3 B c d] 26,s7 y [V3 C f i,V3 D k l] 30,tail (V3 O R S) 9 1]) ?_ ?_
   ·refine j5 (mv rfl (lv (a2C (r:=([]:r4)) rfl rfl) (mv rfl (bt bN (fun o aC=>?_) (fun o aC=>?_)))))
    ·refine lg o (i5 rfl) (lg o (i5 rfl) ?_)
     obtain⟨cP,bP,bQ⟩:=ob aC
     refine A3 (wg rfl rfl o) rfl (A2 (vs:=[V3 O R S,sv Y]) c4D rfl) (a6G F aB.enter0 (ai.mono aa) aN bP) ?_
     rintro cQ cR ⟨bR,rfl,aP⟩
     refine⟨_,rfl,?_⟩
     have bS:=(aB.c0 aP).t3
     refine lg o (A4 rfl) (lv (n9 rfl o rfl) (i8 ?_))
     cases oi bQ
     exact qd ⟨bR,rfl,bS,aP.le⟩
    refine lu o (lu o (lu o (lu o (lv (L8 rfl o rfl) (i8 ?_)))))
    cases oi aC
    exact qd ⟨aO,rfl,aB,kr⟩
   rintro _ cS ⟨bT,rfl,aQ,aj⟩
   refine l5 (D5 bO rfl (fun bU aD=>?_) (fun bU aD=>?_))
   ·refine j5 (mv rfl (mv rfl (lb D9 (sv Y) [sv Y] Y underlying23 G7 ⟨rfl,aN⟩ aQ fun cT cU cV aR bV bW=>?_)))
    obtain⟨cW,bX,bY⟩:=ob aD
    refine lp underlying23 G7 (ai.mono ((aa.trans aj).trans aR)) bV bX bW.f3 fun bZ ca cb cX cc cd ce cf=>(av rfl (nb (l5 (j5 (mv rfl (lv (y7 rfl rfl) (av rfl (i8 ?_))))))))
    cases oi bY
    exact qd ⟨_,rfl,bZ,ca,cb,cc,rfl,cf.f3.f3.s,((((T.trans aa).trans aj).trans aR).trans cd),ce,(u0 _)⟩
   refine j3 (x8 (l5 (j5 (mv rfl (lv (y7 rfl rfl) (av rfl (i8 ?_)))))))
   cases oi aD
   exact qd ⟨_,rfl,O,R,S,bT,rfl,aQ,((T.trans aa).trans aj),(ai.mono (aa.trans aj)),(u0 _)⟩
  refine y4 (g8 (g8 ?_))
  cases oi aA
  cases bA _ rfl
  refine l6 ?_
  cases oi bv
  exact qd ⟨O,R,S,X,rfl,az,T,ai⟩
 rintro _ cY ⟨ae,af,ag,ah,rfl,ak,al,cg⟩
 refine qr (lv (j6 (ds:=[V3 A a b,V3 B c d]) B9 rfl m0 ak rfl rfl) (lv (j6 (ds:=[V3 C f i,V3 D k l]) C4 rfl m1 ak rfl rfl) (mv rfl (mv rfl (mv rfl ?_)))))
 obtain⟨cZ,ch,cj⟩:=ob bs
 refine lk c9x (c7z F ak.enter0 (ab.mono ((q.trans s).trans al)) (ac.mono ((q.trans s).trans al)) (aE.mono ((q.trans s).trans al)) (aF.mono ((q.trans s).trans al)) aG cg aH ch) ?_
 rintro da db ⟨ck,cl,cm,cn,rfl,cp,cq,cr⟩
 have cs:=(ak.c0 cp).t3
 refine lv (y3 rfl rfl) (lv (y3 rfl rfl) (av rfl (av rfl (nq (j9 ?_)))))
 cases oi cj
 exact S7 (vs:=[_,_]) results27 ⟨rfl,rfl,trivial⟩ ⟨ck,cl,cm,cn,rfl,cs.s,cq,cr⟩

theorem R1 {q0:List E3}{q1:List E3}{r:Bool}(hS:SH w K [] w K [])(m:b7 Q0 K A a b q0)(C:b7 Q0 K B c d q1)(hm:M5 F q0 q1=some r):
  Calls prog 28 #[V3 A a b,V3 B c d] w (R_b w K r):=by
 rw [M5] at hm
 refine ci func28 rfl ntmps28 (sr (lv (O6 rfl) (O7 (mv rfl (lv (q9 underlying57 rfl m) (mv rfl (lv (q9 underlying57 rfl C) (lv (R2 rfl rfl) (nq ?_)))))))))
 refine R9 rfl (fun o=>?_) (fun o=>?_)
 ·have q:=a1a o hm
  refine sr (lv (O6 rfl) (nq (rr ?_)))
  cases oi q
  exact ey results28 ⟨K,rfl,hS⟩
 have q:=a09 o hm
 refine j3 (qs (sr (lv (N2 rfl) (nq ?_))))
 obtain⟨O,R,i⟩:=ob q
 refine l4 (IE O w K [] K [] []) ?_ ?_
 ·refine j7 ?_
  obtain⟨ap,S,D⟩:=ob R
  refine qw (fun (s:Int)=>IW w K [] K [(0,V3 A a b),(1,V3 B c d),(5,V6 s)] [] (i7 s)) S ⟨K,rfl,hS,kr,I5⟩ ?_
  rintro s _ aq ar T G ⟨U,rfl,H,f,au⟩
  refine o4 (sr (mv rfl (mv rfl (lv (q9 underlying57 rfl (m.mono f)) (lv (u7 rfl rfl) (nq (D5 T rfl (fun V x=>?_) (fun V x=>?_))))))))
  ·refine j3 (qs (j7 (o4 (D4 mixed (by kernel_rfl) H (km rfl (km rfl ?_))))))
   obtain⟨k,W,X⟩:=ob x
   refine ki underlying57 Q2 (m.mono f) W fun Y aa aw ab ac=>?_
   obtain⟨rfl,ax,ay⟩:=ab
   have ad:F1 _ Y aa [V6 k.Doc,V6 k.Points]:=ac
   refine kh (a1C Q2 rfl ad rfl) (km rfl (km rfl ?_))
   obtain⟨l,ae,af⟩:=ob X
   refine ki underlying57 Q2 (C.mono f) ae fun ag ah az ai aj=>?_
   obtain⟨rfl,aA,aB⟩:=ai
   have ak:F1 _ ag ah [V6 l.Doc,V6 l.Points]:=aj
   refine kh (a1C Q2 rfl ak rfl) (kv (c5a c39 rfl rfl (c4a k.Doc k.Points l.Doc l.Points)) (B4 ?_))
   rintro aC ⟨I,J,al⟩
   refine l5 (D5 af rfl (fun am y=>?_) (fun am y=>?_))
   ·refine sr (lv (O6 rfl) (nq (j9 (i9 (c9 (c9 ?_))))))
    cases oi y
    cases G _ rfl
    refine i9 (c9 ?_)
    cases oi D
    refine c9 ?_
    cases oi i
    exact ey results28 ⟨I,rfl,J⟩
   refine j3 (x8 (l5 (j5 (mv rfl (lv (y7 rfl rfl) (av rfl (i8 ?_)))))))
   cases oi y
   exact qd ⟨_,rfl,I,rfl,J,(f.trans al),(u0 _)⟩
  refine y4 (g8 (g8 ?_))
  cases oi x
  cases G _ rfl
  refine l6 ?_
  cases oi D
  exact L6 ⟨_,U,rfl,rfl,H,f⟩ trivial
 rintro _ aD ⟨aE,an,rfl,rfl,ao,aF⟩
 have i:=E9 i
 refine qr (lv (r_t rfl) (nq (j9 ?_)))
 cases oi i
 exact ey results28 ⟨an,rfl,ao⟩

theorem c7O {q0:List r4}{q1:r4}{r:Bool}(hS:SH w K [] w K [])(o:b7 D9 K A a b q0)(X:q1.length≤maxLen)(hm:a6M F q0 q1=some r):
  Calls prog 29 #[V3 A a b,sv q1] w (R_b w K r):=by
 rw [a6M] at hm
 refine ci func29 rfl ntmps29 (sr (lv (O6 rfl) (O7 (lv (N2 rfl) (nq ?_)))))
 obtain⟨x,y,c⟩:=ob hm
 refine l4 (IE x w K [] K [] []) ?_ ?_
 ·refine j7 ?_
  obtain⟨Y,B,q⟩:=ob y
  refine qw (fun (i:Int)=>IW w K [] K [(0,V3 A a b),(1,sv q1),(5,V6 i)] [] (i7 i)) B ⟨K,rfl,hS,kr,I5⟩ ?_
  rintro i _ aa ab C s ⟨k,rfl,d,f,ac⟩
  refine o4 (sr (mv rfl (mv rfl (lv (q9 underlying23 rfl (o.mono f)) (lv (u7 rfl rfl) (nq (D5 C rfl (fun D l=>?_) (fun D l=>?_))))))))
  ·refine j3 (qs (j7 (sr (mv rfl (mv rfl ?_)))))
   obtain⟨G,H,I⟩:=ob l
   refine li underlying23 G7 (o.mono f) H fun J O ad R S=>?_
   obtain⟨rfl,ae⟩:=R
   have T:F1 _ J O [sv G]:=S
   refine lv (y9 G7 rfl d (T 0 _ rfl)) (mv rfl (lv (J8 rfl rfl) (nq (D5 I rfl (fun U m=>?_) (fun U m=>?_)))))
   ·refine sr (lv (r_t rfl) (nq (j9 (i9 (c9 (c9 ?_))))))
    cases oi m
    cases s _ rfl
    refine i9 (c9 ?_)
    cases oi q
    refine c9 ?_
    cases oi c
    exact ey results29 ⟨k,rfl,d⟩
   refine j3 (x8 (l5 (j5 (mv rfl (lv (y7 rfl rfl) (av rfl (i8 ?_)))))))
   cases oi m
   exact qd ⟨_,rfl,k,rfl,d,f,(u0 _)⟩
  refine y4 (g8 (g8 ?_))
  cases oi l
  cases s _ rfl
  refine l6 ?_
  cases oi q
  exact L6 ⟨_,k,rfl,rfl,d,f⟩ trivial
 rintro _ af ⟨s9,V,rfl,rfl,W,ah⟩
 have c:=E9 c
 refine qr (lv (O6 rfl) (nq (j9 ?_)))
 cases oi c
 exact ey results29 ⟨V,rfl,W⟩

theorem a8v {q0:u6}{q1:A5}{q2:q7}{r:(List E3)}(hS:SH w K [] w K [])(aE:b7 D9 K A a b q0.Stops)(aF:b7 L0 K B c d q0.Syns)(T:b7 F6 K C f i q1.Docs)(aG:b7 B8 K D k l q1.Entries)(aH:i7 q2.Kind)(aI:q2.Field.length≤maxLen)(aJ:b7 D9 K G m n q2.Words)(aK:i7 q2.From)(aL:i7 q2.To)(aM:b7 F4 K H o p q2.Kids)(hG30:a4i y6 1 q G8 w)(hD: ¬dr.D)(hm:a05 F q0 q1 q2=some r):
  Calls prog 92 #[.agg #[V3 A a b,V3 B c d],.agg #[V3 C f i,V3 D k l],.agg #[V6 q2.Kind,sv q2.Field,V3 G m n,V6 q2.From,V6 q2.To,V3 H o p]] w fun e w'=>∃a_1 n_2 c_3 K',e= .returned (V3 a_1 n_2 c_3)∧SH w K [] w' K' [tail (V3 a_1 n_2 c_3) 71 2]∧b7 Q0 K' a_1 n_2 c_3 r:=by
 rw [a05] at hm
 refine ci func92 rfl ntmps92 (sr (bx rfl hS fun am ce aU=>?_))
 have aV:SH _ _ _ _ _ [s7 am [V3 A a b,V3 B c d] 26]:=aU
 refine bx rfl aV fun an cf aW=>?_
 have aX:SH _ _ _ _ _ [s7 an [V3 C f i,V3 D k l] 30,_]:=aW
 refine bx rfl aX fun V cg aY=>?_
 have aZ:SH _ _ _ _ _ [s7 V [V6 q2.Kind,sv q2.Field,V3 G m n,V6 q2.From,V6 q2.To,V3 H o p] 35,_,_]:=aY
 refine lv (r_n rfl) (nr (b0 Q0 underlying57 Q2 aZ fun ae ch ba s aN af=>(av rfl (ns (o4 ?_)))))
 obtain⟨bb,bc,bd⟩:=ob hm
 refine l4 (IV w K [] ba [(3,pt am),(4,pt an),(5,pt V),(7,V3 ae 0 0),(21,.bool bb)] [s7 am [V3 A a b,V3 B c d] 26,s7 an [V3 C f i,V3 D k l] 30,s7 V [V6 q2.Kind,sv q2.Field,V3 G m n,V6 q2.From,V6 q2.To,V3 H o p] 35,tail (V3 ae 0 0) 71 2]) ?_ ?_
 ·refine j5 (lv (j6 (ds:=[V3 A a b,V3 B c d]) B9 rfl m3 af rfl rfl) (lv (j6 (ds:=[V3 C f i,V3 D k l]) C4 rfl m2 af rfl rfl) ?_))
  obtain⟨cj,be,bf⟩:=ob bc
  refine lk a9k (J1 F af.enter0 (aE.mono s) (aF.mono s) (T.mono s) (aG.mono s) be) ?_
  rintro ck cl ⟨bg,rfl,W⟩
  have X:=(af.c0 W).t4
  refine lv (A4 rfl) (mv rfl (bt bf (fun I ao=>?_) (fun I ao=>?_)))
  ·refine lu I (lu I (lu I (lv (J6 rfl I rfl) (i8 ?_))))
   cases oi ao
   exact qd ⟨bg,rfl,X.f1.f2.f3,W.le⟩
  refine lg I (j6 (ds:=[V6 q2.Kind,sv q2.Field,V3 G m n,V6 q2.From,V6 q2.To,V3 H o p]) B1 rfl m1 X rfl rfl) ?_
  obtain⟨cm,bh,bi⟩:=ob ao
  refine A3 (wg rfl rfl I) rfl (A2 (vs:=[.agg #[V6 q2.Kind,sv q2.Field,V3 G m n,V6 q2.From,V6 q2.To,V3 H o p]]) b9U rfl) (a0J F X.enter0 aH aI (aJ.mono (s.trans W.le)) aK aL (aM.mono (s.trans W.le)) (hG30.keep X) bh) ?_
  rintro cn cp ⟨bj,rfl,aO⟩
  refine⟨_,rfl,?_⟩
  have bk:=(X.c0 aO).t4
  refine lg I (A4 rfl) (lv (l9 rfl I rfl) (i8 ?_))
  cases oi bi
  exact qd ⟨bj,rfl,bk.f1.f2.f3,(W.le.trans aO.le)⟩
 rintro _ cq ⟨ag,rfl,ah,x⟩
 refine l5 (D5 bd rfl (fun bl ap=>?_) (fun bl ap=>?_))
 ·refine sr (mv rfl (av rfl (nq (rr ?_))))
  cases oi ap
  exact ey results92 ⟨ae,0,0,ag,rfl,ah.s,(aN.mono x)⟩
 refine j3 (qr (lv (j6 (ds:=[V3 A a b,V3 B c d]) B9 rfl m0 ah rfl rfl) (lv (j6 (ds:=[V3 C f i,V3 D k l]) C4 rfl m1 ah rfl rfl) (lv (C3 (cs:=#[V3 A a b,V3 B c d,V3 C f i,V3 D k l]) c4i c4n rfl (by kernel_rfl)) (bx rfl ah fun aq cr bm=>?_)))))
 have aP:SH _ _ _ _ _ [s7 aq [V3 A a b,V3 B c d,V3 C f i,V3 D k l] 113,_,_,_,_]:=bm
 refine av rfl (O7 (fl L3 rfl a1b m2 aP rfl (lv (q9 underlying27 rfl (T.mono (s.trans x))) (lv (r_m rfl) (nq ?_)))))
 obtain⟨bn,bo,bp⟩:=ob ap
 refine l4 (fun E' w'=>∃Y aa ab ac,E'=[(7,V3 Y aa ab)]∧SH w K [] w' ac [tail (V3 Y aa ab) 71 2]∧M0 ag ac∧b7 Q0 ac Y aa ab bn) ?_ ?_
 ·refine j7 ?_
  obtain⟨ct,bq,br⟩:=ob bo
  have bs:=aP.f4.f1.f4.sb (sk (sk (sk (sd (sd sz)))))
  refine qF (fun (aQ:Nat) (ar:(List E3)) E' w'=>∃J O R U,E'=[(5,pt V),(7,V3 J O R),(8,pt aq),(28,V3 C f i),(29,V6 (q1.Docs.length:Int)),(30,V6 ((aQ:Nat):Int))]∧SH w K [] w' U [s7 V [V6 q2.Kind,sv q2.Field,V3 G m n,V6 q2.From,V6 q2.To,V3 H o p] 35,s7 aq [V3 A a b,V3 B c d,V3 C f i,V3 D k l] 113,tail (V3 J O R) 71 2]∧M0 ag U∧b7 Q0 U J O R ar) bq ⟨ae,0,0,ag,rfl,bs,kr,(aN.mono x)⟩ ?_ ?_
  ·rintro aQ ar _ bu cu hi117 bv ⟨J,O,R,U,rfl,ai,y,aj⟩
   refine sr (lv (u7 rfl rfl) (ns (C9 rfl (b8 (by omega)) (j3 (l5 (o4 (j7 (sr ?_))))))))
   obtain⟨S,bz,bA⟩:=ob bv
   refine li underlying27 E8 (T.mono ((s.trans x).trans y)) bz fun bB bC cv bD bE=>?_
   obtain⟨au,aw,ax,ay,az,aA,rfl,aR,bF,bG⟩:=bD
   have bH:F1 _ bB bC [V6 S.Id,V3 au aw ax,V3 ay az aA]:=bE
   refine lv (F3 E8 rfl ai bH rfl) (al E8 ai fun bI cw bJ=>?_)
   have bK:SH _ _ _ _ _ [s7 bI [V6 0,V3 none 0 0,V3 none 0 0] 44,_,_,_]:=bJ
   refine lw [V6 S.Id,V3 au aw ax,V3 ay az aA] E8 bK fun cx aB=>(nr (mv rfl (lv (j6 (ds:=[V6 q2.Kind,sv q2.Field,V3 G m n,V6 q2.From,V6 q2.To,V3 H o p]) B1 rfl m1 aB rfl rfl) (lv (j6 (ds:=[V6 S.Id,V3 au aw ax,V3 ay az aA]) E8 rfl m0 aB rfl rfl) ?_))))
   obtain⟨ak,bL,bM⟩:=ob bA
   have aS:=aB.f2
   refine lk b9V ((a5s F (q0:=(T0.mk q0 q1))) aS.e1 (aE.mono ((s.trans x).trans y)) (aF.mono ((s.trans x).trans y)) (T.mono ((s.trans x).trans y)) (aG.mono ((s.trans x).trans y)) aH aI (aJ.mono ((s.trans x).trans y)) aK aL (aM.mono ((s.trans x).trans y)) aR bF bG hD bL) ?_
   rintro cy cz ⟨bN,rfl,ad,bO⟩
   have aC:=(aS.c1 ad).t4
   refine av rfl (nr (mv rfl (lv (E7 rfl rfl) (nq (D5 bM rfl (fun bP aD=>?_) (fun bP aD=>?_))))))
   ·refine j5 (mv rfl (fl P6 rfl E6 m1 aC rfl (mv rfl (lv (C3 (cs:=#[V6 S.Id,V6 ak]) c3D Q2 rfl (by kernel_rfl)) (lb Q0 (.agg #[V6 S.Id,V6 ak]) [V6 S.Id,V6 ak] (E3.mk S.Id ak) underlying57 Q2 ⟨rfl,aR,bO⟩ aC fun cA cB cC aT bQ bR=>?_)))))
    obtain⟨cD,bS,bT⟩:=ob aD
    refine lp underlying57 Q2 (aj.mono (ad.le.trans aT)) bQ bS bR.f4 fun bU bV bW cE bX bY bZ ca=>(av rfl (nb (qg (lv (B6 rfl rfl (C6 hi117 (b7.max (T.mono (s.trans x))))) (mv rfl (i8 ?_))))))
    cases oi bT
    exact qd ⟨bU,bV,bW,bX,rfl,ca.f2.f4.s,(((y.trans ad.le).trans aT).trans bY),bZ⟩
   refine j3 (x8 (qg (lv (B6 rfl rfl (C6 hi117 (b7.max (T.mono (s.trans x))))) (mv rfl (i8 ?_)))))
   cases oi aD
   exact qd ⟨J,O,R,bN,rfl,aC.f3.f1.f3.s,(y.trans ad.le),(aj.mono ad.le)⟩
  rintro ar _ bu cb ⟨J,O,R,U,rfl,ai,y,aj⟩
  subst cb
  refine sr (lv (u7 rfl rfl) (ns (C8 rfl (c6 (by omega)) (y4 (g8 (g8 (l6 ?_)))))))
  cases oi br
  exact qd ⟨J,O,R,U,rfl,ai.s,y,aj⟩
 rintro _ cF ⟨Y,aa,ab,ac,rfl,cc,cG,cd⟩
 refine qr (mv rfl (av rfl (nq (j9 ?_))))
 cases oi bp
 exact ey results92 ⟨Y,aa,ab,ac,rfl,cc,cd⟩

theorem a0b {q0:u6}{q1:A5}{q2:q7}{q3:Int}{r:(List E3)}(hS:SH w K [] w K [])(R:b7 D9 K A a b q0.Stops)(S:b7 L0 K B c d q0.Syns)(T:b7 F6 K C f i q1.Docs)(U:b7 B8 K D k l q1.Entries)(V:i7 q2.Kind)(W:q2.Field.length≤maxLen)(X:b7 D9 K G m n q2.Words)(Y:i7 q2.From)(aa:i7 q2.To)(ab:b7 F4 K H o p q2.Kids)(I:i7 q3)(hG31:a4i y6 1 q G8 w)(hD: ¬dr.D)(hm:R3 F q0 q1 q2 q3=some r):
  Calls prog 30 #[.agg #[V3 A a b,V3 B c d],.agg #[V3 C f i,V3 D k l],.agg #[V6 q2.Kind,sv q2.Field,V3 G m n,V6 q2.From,V6 q2.To,V3 H o p],V6 q3] w fun e w'=>∃a_1 n_2 c_3 K',e= .returned (V3 a_1 n_2 c_3)∧SH w K [] w' K' [tail (V3 a_1 n_2 c_3) 71 2]∧b7 Q0 K' a_1 n_2 c_3 r:=by
 rw [R3] at hm
 refine ci func30 rfl ntmps30 (sr (bx rfl hS fun ac aH ad=>?_))
 have ae:SH _ _ _ _ _ [s7 ac [V3 A a b,V3 B c d] 26]:=ad
 refine bx rfl ae fun af aI ag=>?_
 have ah:SH _ _ _ _ _ [s7 af [V3 C f i,V3 D k l] 30,_]:=ag
 refine bx rfl ah fun ai aJ aj=>?_
 have J:SH _ _ _ _ _ [s7 ai [V6 q2.Kind,sv q2.Field,V3 G m n,V6 q2.From,V6 q2.To,V3 H o p] 35,_,_]:=aj
 refine lv (r_n rfl) (O7 (mv rfl ?_))
 obtain⟨aK,ak,al⟩:=ob hm
 refine lk a5x (E2 F J.enter0 I (by decide :i7 1) (by decide :i7 16) ak) ?_
 rintro aL aM ⟨aN,rfl,s⟩
 have x:=(J.c0 s).t3
 refine lv (A4 rfl) (nq (D5 al rfl (fun am y=>?_) (fun am y=>?_)))
 ·refine sr (b0 Q0 underlying57 Q2 x fun an aO ao aP ap aq=>(av rfl (nq (rr ?_))))
  cases oi y
  exact ey results30 ⟨an,0,0,ao,rfl,aq.s,ap⟩
 refine j3 (qr (lv (j6 (ds:=[V3 A a b,V3 B c d]) B9 rfl m2 x rfl rfl) (lv (j6 (ds:=[V3 C f i,V3 D k l]) C4 rfl m1 x rfl rfl) (lv (j6 (ds:=[V6 q2.Kind,sv q2.Field,V3 G m n,V6 q2.From,V6 q2.To,V3 H o p]) B1 rfl m0 x rfl rfl) ?_))))
 obtain⟨aQ,ar,au⟩:=ob y
 refine lk c6D (a8v F x.enter0 (R.mono s.le) (S.mono s.le) (T.mono s.le) (U.mono s.le) V W (X.mono s.le) Y aa (ab.mono s.le) (hG31.keep x) hD ar) ?_
 rintro aR aS ⟨aT,aU,aV,aW,rfl,aw,ax⟩
 have O:=(x.c0 aw).t4
 refine mv rfl ?_
 obtain⟨aX,ay,az⟩:=ob au
 refine lk c68 (b0H F O.enter0 ax I ay) ?_
 rintro aY aZ ⟨aA,aB,aC,aD,rfl,aE,aF⟩
 have aG:=(O.c0 aE).t5
 refine av rfl (nq (j9 ?_))
 cases oi az
 exact ey results30 ⟨aA,aB,aC,aD,rfl,aG.s,aF⟩

theorem c4Z {q0:List UInt8}{r:Bool}(hS:SH w K [] w K [])(bK:b7 tU8 K A a b q0)(hG6:a4i y6 1 c G8 w)(hD: ¬dr.D)(hm:a2s F q0=some r):
  Calls prog 4 #[V3 A a b] w (R_b w K r):=by
 rw [a2s] at hm
 refine ci func4 rfl ntmps4 (sr (lv (O6 rfl) (O7 (mv rfl (lv (q9 underlying22 rfl bK) (lv (E7 rfl rfl) (nq (R9 rfl (fun aV=>?_) (fun aV=>?_)))))))))
 ·have h8:=a1a aV hm
  refine sr (lv (r_t rfl) (nq (rr ?_)))
  cases oi h8
  exact ey results4 ⟨K,rfl,hS⟩
 have h8:=a09 aV hm
 refine j3 (qr (mv rfl ?_))
 obtain⟨o,cc,cd⟩:=ob h8
 refine lk c9n (b90 F hS.enter0 bK cc) ?_
 rintro eF eG ⟨B,C,D,G,H,I,R,S,T,U,V,W,aX,aY,aZ,eH,rfl,ce,ay,az,ba,bb,bc,aA,bd⟩
 have cf:=(hS.c0 ce).t4
 refine mv rfl (lv (y3 rfl rfl) (lv (y3 rfl rfl) (lv (y3 rfl rfl) (lv (y3 rfl rfl) (lv (y3 rfl rfl) (al B9 cf fun q eI cg=>?_))))))
 have ch:SH _ _ _ _ _ [s7 q [V3 none 0 0,V3 none 0 0] 26,_,_,_,_]:=cg
 refine al C4 ch fun s eJ cj=>?_
 have ck:SH _ _ _ _ _ [s7 s [V3 none 0 0,V3 none 0 0] 30,_,_,_,_,_]:=cj
 refine lw [V3 B C D,V3 G H I] B9 ck.f1 fun eK cl=>(lw [V3 R S T,V3 U V W] C4 cl.f1 fun eL aE=>(av rfl (av rfl (av rfl (nr (lv (j6 (ds:=[V3 B C D,V3 G H I]) B9 rfl m1 aE rfl rfl) (lv (j6 (ds:=[V3 R S T,V3 U V W]) C4 rfl m0 aE rfl rfl) (mv rfl (mv rfl ?_)))))))))
 refine mv rfl ?_
 obtain⟨aF,cm,cn⟩:=ob cd
 refine lk c9o (c7p F aE.enter0 ay az ba bb bc aA bd cm) ?_
 rintro eM eN ⟨ak,am,an,eO,rfl,d,aG,eP⟩
 have aH:=(aE.c0 d).t7
 refine mv rfl (lv (y3 rfl rfl) (lv (y3 rfl rfl) (av rfl (av rfl (nr (lv (j6 (ds:=[V3 B C D,V3 G H I]) B9 rfl m2 aH rfl rfl) (lv (j6 (ds:=[V3 R S T,V3 U V W]) C4 rfl m1 aH rfl rfl) (mv rfl (mv rfl ?_)))))))))
 refine mv rfl ?_
 obtain⟨cp,cq,cr⟩:=ob cn
 refine lk c9p (c7q F aH.enter0 (ay.mono d.le) (az.mono d.le) (ba.mono d.le) (bb.mono d.le) bc (aA.mono d.le) bd cq) ?_
 rintro eQ eR ⟨be,bf,bg,bL,rfl,f,bM,eS⟩
 have bh:=(aH.c0 f).t7
 refine mv rfl (lv (y3 rfl rfl) (lv (y3 rfl rfl) (av rfl (av rfl (ns (o4 ?_))))))
 obtain⟨ct,cu,cv⟩:=ob cr
 refine l4 (IV w K [] bL [(3,pt q),(4,pt s),(5,sv o.2.2.1),(6,V3 aX aY aZ),(7,V6 o.2.2.2.2),(8,V3 ak am an),(9,V6 aF.2),(10,V3 be bf bg),(11,V6 cp.2),(58,.bool ct)] [s7 q [V3 B C D,V3 G H I] 26,s7 s [V3 R S T,V3 U V W] 30]) ?_ ?_
 ·refine j5 (mv rfl (mv rfl (lv (R2 rfl rfl) (mv rfl (bt cu (fun x bi=>?_) (fun x bi=>?_))))))
  ·refine lu x (lu x (lu x (lu x (lv (J6 rfl x rfl) (mv rfl (lu rfl (lu rfl (lv (J6 rfl rfl rfl) (i8 ?_)))))))))
   cases oi bi
   exact qd ⟨bL,rfl,bh.f1.f2.s,kr⟩
  refine lg x (i5 rfl) (lg x (i5 rfl) ?_)
  obtain⟨eT,cw,cx⟩:=ob bi
  refine A3 (wg rfl rfl x) rfl (A2 (vs:=[V3 ak am an,V3 be bf bg]) b4A rfl) (R1 F bh.enter0 (aG.mono f.le) bM cw) ?_
  rintro eU eV ⟨bN,rfl,bj⟩
  refine⟨_,rfl,?_⟩
  have bO:=(bh.c0 bj).t7
  refine lg x (A4 rfl) (lv (l9 rfl x rfl) (mv rfl (bt cx (fun ao bk=>?_) (fun ao bk=>?_))))
  ·refine lu ao (lu ao (lv (J6 rfl ao rfl) (i8 ?_)))
   cases oi bk
   exact qd ⟨bN,rfl,bO.f1.f2.s,bj.le⟩
  refine lg ao (i5 rfl) (lg ao (u7 rfl rfl) (lv (l9 rfl ao rfl) (i8 ?_)))
  cases oi bk
  exact qd ⟨bN,rfl,bO.f1.f2.s,bj.le⟩
 rintro _ eW ⟨bP,rfl,aI,i⟩
 refine l5 (D5 cv rfl (fun cy bl=>?_) (fun cy bl=>?_))
 ·refine o4 ?_
  obtain⟨cz,cA,cB⟩:=ob bl
  refine l4 (IV w K [] bP [(2,.bool cz)] []) ?_ ?_
  ·refine j5 (mv rfl (mv rfl (lv (A9 rfl rfl) (mv rfl (bt cA (fun X bm=>?_) (fun X bm=>?_))))))
   ·refine lg X (i5 rfl) (lg X (i5 rfl) ?_)
    obtain⟨eX,cC,cD⟩:=ob bm
    refine A3 (wg rfl rfl X) rfl (A2 (vs:=[V3 ak am an,V3 be bf bg]) b4A rfl) (R1 F aI.enter0 (aG.mono (f.le.trans i)) (bM.mono i) cC) ?_
    rintro eY eZ ⟨cE,rfl,bQ⟩
    refine⟨_,rfl,?_⟩
    have cF:=(aI.c0 bQ).t2
    refine lv (n9 rfl X rfl) (av rfl (i8 ?_))
    cases oi cD
    exact qd ⟨cE,rfl,cF.s,bQ.le⟩
   refine lu X (lu X (lu X (lv (L8 rfl X rfl) (av rfl (i8 ?_)))))
   cases oi bm
   exact qd ⟨bP,rfl,aI.s,kr⟩
  rintro _ fb ⟨cG,rfl,cH,fc⟩
  refine l5 (rr ?_)
  cases oi cB
  exact ey results4 ⟨cG,rfl,cH⟩
 refine j3 (qr (b0 D9 underlying23 G7 aI fun cI fd fe m cJ cK=>(av rfl (nr (b0 F4 underlying33 B1 cK fun cL fg bn k cM cN=>(av rfl (O7 (lv (N2 rfl) (nq ?_)))))))))
 obtain⟨cO,cP,cQ⟩:=ob bl
 refine l4 (fun E' w'=>∃Y aa ab J,E'=[(3,pt q),(4,pt s),(7,V6 o.2.2.2.2),(8,V3 ak am an),(9,V6 aF.2),(13,V3 Y aa ab)]∧SH w K [] w' J [s7 q [V3 B C D,V3 G H I] 26,s7 s [V3 R S T,V3 U V W] 30,tail (V3 Y aa ab) 35 6]∧M0 bn J∧b7 F4 J Y aa ab cO) ?_ ?_
 ·refine j7 ?_
  obtain⟨fh,cR,cS⟩:=ob cP
  refine qw (fun (ar:(List r4)×(List q7)×Int) E' w'=>∃ac ad ae af ag ah au,E'=[(3,pt q),(4,pt s),(5,sv o.2.2.1),(6,V3 aX aY aZ),(7,V6 o.2.2.2.2),(8,V3 ak am an),(9,V6 aF.2),(12,V3 ac ad ae),(13,V3 af ag ah),(14,V6 ar.2.2)]∧SH w K [] w' au [s7 q [V3 B C D,V3 G H I] 26,s7 s [V3 R S T,V3 U V W] 30,tail (V3 ac ad ae) 9 1,tail (V3 af ag ah) 35 6]∧M0 bn au∧b7 D9 au ac ad ae ar.1∧b7 F4 au af ag ah ar.2.1∧i7 ar.2.2) cR ⟨cI,0,0,cL,0,0,bn,rfl,cN.f1.f3.f3,kr,(cJ.mono k),cM,I5⟩ ?_
  rintro ar _ fi fj cT cU ⟨ac,ad,ae,af,ag,ah,au,rfl,bo,O,bp,bq,fk⟩
  refine o4 (sr (mv rfl (mv rfl (lv (q9 underlying23 rfl (b7.mono (((((d.le.trans f.le).trans i).trans m).trans k).trans O) aA)) (lv (u7 rfl rfl) (nq (D5 cT rfl (fun cV br=>?_) (fun cV br=>?_))))))))
  ·refine j3 (qs (j7 (o4 (D4 mixed (by kernel_rfl) bo (kh (D8 (ds:=[V3 B C D,V3 G H I]) B9 rfl m0 rfl rfl) (km rfl (km rfl ?_)))))))
   obtain⟨cW,cX,cY⟩:=ob br
   refine ki underlying23 G7 (b7.mono (((((d.le.trans f.le).trans i).trans m).trans k).trans O) aA) cX fun cZ da fm db dc=>?_
   obtain⟨rfl,bR⟩:=db
   have dd:F1 _ cZ da [sv cW]:=dc
   refine kh (C1 G7 rfl (dd 0 _ rfl)) ?_
   obtain⟨aB,bS,de⟩:=ob cY
   refine kd c2P (fun _ _ df bT=>(a4y F) df.enter0 (b7.mono ((((((d.le.trans f.le).trans i).trans m).trans k).trans O).trans bT) ay) (b7.mono ((((((d.le.trans f.le).trans i).trans m).trans k).trans O).trans bT) az) bR bS) ?_
   obtain⟨_,_,_,⟨_,_,_,bU⟩,_⟩:=(a4y F) bo.enter0 (b7.mono (((((d.le.trans f.le).trans i).trans m).trans k).trans O) ay) (b7.mono (((((d.le.trans f.le).trans i).trans m).trans k).trans O) az) bR bS []
   refine kv (u9 rfl) (B4 ?_)
   rintro fn ⟨bV,bs,ai⟩
   refine qs ?_
   obtain⟨dg,dh,di⟩:=ob de
   refine l4 (IV w K [] bV [(3,pt q),(4,pt s),(5,sv o.2.2.1),(6,V3 aX aY aZ),(7,V6 o.2.2.2.2),(8,V3 ak am an),(9,V6 aF.2),(12,V3 ac ad ae),(13,V3 af ag ah),(14,V6 ar.2.2),(15,sv aB),(88,.bool dg)] [s7 q [V3 B C D,V3 G H I] 26,s7 s [V3 R S T,V3 U V W] 30,tail (V3 ac ad ae) 9 1,tail (V3 af ag ah) 35 6]) ?_ ?_
   ·refine j5 (mv rfl (lv (a2C (r:=([]:r4)) rfl rfl) (mv rfl (bt dh (fun y bu=>?_) (fun y bu=>?_)))))
    ·refine lg y (i5 rfl) (lg y (i5 rfl) ?_)
     obtain⟨fo,dj,dk⟩:=ob bu
     refine A3 (wg rfl rfl y) rfl (A2 (vs:=[V3 ac ad ae,sv aB]) c9q rfl) (c7O F bs.enter0 (bp.mono ai) bU dj) ?_
     rintro fp fq ⟨dl,rfl,bW⟩
     refine⟨_,rfl,?_⟩
     have dm:=(bs.c0 bW).t4
     refine lg y (A4 rfl) (lv (n9 rfl y rfl) (i8 ?_))
     cases oi dk
     exact qd ⟨dl,rfl,dm,bW.le⟩
    refine lu y (lu y (lu y (lu y (lv (L8 rfl y rfl) (i8 ?_)))))
    cases oi bu
    exact qd ⟨bV,rfl,bs,kr⟩
   rintro _ fr ⟨dn,rfl,bX,ap⟩
   refine l5 (D5 di rfl (fun dp bv=>?_) (fun dp bv=>?_))
   ·refine sr (mv rfl (mv rfl (lb D9 (sv aB) [sv aB] aB underlying23 G7 ⟨rfl,bU⟩ bX fun fs ft fu aJ dq dt=>?_)))
    obtain⟨fv,du,dv⟩:=ob bv
    refine lp underlying23 G7 (bp.mono ((ai.trans ap).trans aJ)) dq du dt.f3 fun dw dx dy fw fx bx dz dA=>(av rfl (nq (j5 (mv rfl (mv rfl (mv rfl (mv rfl (mv rfl (lv (y7 rfl rfl) ?_)))))))))
    obtain⟨dB,dC,dD⟩:=ob dv
    refine c8U (t:=D9) wn rfl underlying23 G7 rfl rfl rfl (b7.mono (((((((((d.le.trans f.le).trans i).trans m).trans k).trans O).trans ai).trans ap).trans aJ).trans bx) aA) dC fun aK aL aM dE=>(lv (C3 (cs:=#[V6 2,sv o.2.2.1,V3 aK aL aM,V6 0,V6 0,V3 none 0 0]) a7c B1 rfl (by kernel_rfl)) (lb F4 (.agg #[V6 2,sv o.2.2.1,V3 aK aL aM,V6 0,V6 0,V3 none 0 0]) [V6 2,sv o.2.2.1,V3 aK aL aM,V6 0,V6 0,V3 none 0 0] (q7.mk (2:Int) o.2.2.1 dB (0:Int) (0:Int) ([]:List q7)) underlying33 B1 (M4 ⟨aK,aL,aM,none,0,0,rfl,(by decide :i7 2),bc,dE,I5,I5,(b7.nil _ _)⟩) dA fun fy fz fA bz dF dG=>?_))
    obtain⟨fB,dH,dI⟩:=ob dD
    refine lp underlying33 B1 (b7.mono ((((ai.trans ap).trans aJ).trans bx).trans bz) bq) dF dH dG.f5 fun dJ dK dL fC dM bY dN dO=>(av rfl (nb (l5 (j5 (mv rfl (lv (y7 rfl rfl) (av rfl (i8 ?_))))))))
    cases oi dI
    exact qd ⟨_,rfl,dw,dx,dy,dJ,dK,dL,dM,rfl,dO.f2.f5.f5.s,((((((O.trans ai).trans ap).trans aJ).trans bx).trans bz).trans bY),(dz.mono (bz.trans bY)),dN,(u0 _)⟩
   refine j3 (x8 (l5 (j5 (mv rfl (lv (y7 rfl rfl) (av rfl (i8 ?_)))))))
   cases oi bv
   exact qd ⟨_,rfl,ac,ad,ae,af,ag,ah,dn,rfl,bX,((O.trans ai).trans ap),(bp.mono (ai.trans ap)),(bq.mono (ai.trans ap)),(u0 _)⟩
  refine y4 (g8 (g8 ?_))
  cases oi br
  cases cU _ rfl
  refine l6 ?_
  cases oi cS
  exact qd ⟨af,ag,ah,au,rfl,bo.s,O,bq⟩
 rintro _ fD ⟨Y,aa,ab,J,rfl,aN,aw,aO⟩
 refine qs (sr (mv rfl (lv (q9 underlying33 rfl aO) (lv (A9 rfl rfl) (nq (D5 cQ rfl (fun dP bA=>?_) (fun dP bA=>?_)))))))
 ·refine o4 ?_
  obtain⟨dQ,dR,dS⟩:=ob bA
  refine l4 (IV w K [] J [(2,.bool dQ)] []) ?_ ?_
  ·refine j5 (mv rfl (lv (q9 underlying57 rfl (b7.mono ((((f.le.trans i).trans m).trans k).trans aw) aG)) (lv (A9 rfl rfl) (mv rfl (bt dR (fun aq bB=>?_) (fun aq bB=>?_))))))
   ·refine lg aq (i5 rfl) (lg aq (A9 rfl rfl) (lv (n9 rfl aq rfl) (av rfl (i8 ?_))))
    cases oi bB
    exact qd ⟨J,rfl,aN.s,kr⟩
   refine lu aq (lu aq (lv (L8 rfl aq rfl) (av rfl (i8 ?_))))
   cases oi bB
   exact qd ⟨J,rfl,aN.s,kr⟩
  rintro _ fE ⟨dT,rfl,dU,fF⟩
  refine l5 (rr ?_)
  cases oi dS
  exact ey results4 ⟨dT,rfl,dU⟩
 refine j3 (qr (mv rfl ?_))
 obtain⟨aj,dV,dW⟩:=ob bA
 refine li underlying33 B1 aO dV fun dX dY fG dZ ea=>?_
 obtain⟨bC,bD,bE,bF,bG,bH,rfl,eb,ec,ed,ee,ef,eg⟩:=S9 dZ
 have eh:F1 _ dX dY [V6 aj.Kind,sv aj.Field,V3 bC bD bE,V6 aj.From,V6 aj.To,V3 bF bG bH]:=ea
 refine lv (F3 B1 rfl aN eh rfl) (al B1 aN fun bI fH ei=>?_)
 have ej:SH _ _ _ _ _ [s7 bI [V6 0,sv [],V3 none 0 0,V6 0,V6 0,V3 none 0 0] 35,_,_,_]:=ei
 refine lw [V6 aj.Kind,sv aj.Field,V3 bC bD bE,V6 aj.From,V6 aj.To,V3 bF bG bH] B1 ej fun fI bZ=>(O7 (mv rfl (lv (q9 underlying33 rfl aO) (lv (E7 rfl rfl) (nq ?_)))))
 obtain⟨l,ek,el⟩:=ob dW
 refine l4 (fun E' w'=>∃aP aQ aR aS aT aU aC,E'=[(3,pt q),(4,pt s),(7,V6 o.2.2.2.2),(8,V3 ak am an),(16,pt bI)]∧SH w K [] w' aC [s7 q [V3 B C D,V3 G H I] 26,s7 s [V3 R S T,V3 U V W] 30,s7 bI [V6 l.Kind,sv l.Field,V3 aP aQ aR,V6 l.From,V6 l.To,V3 aS aT aU] 35]∧M0 J aC∧i7 l.Kind∧l.Field.length≤maxLen∧b7 D9 aC aP aQ aR l.Words∧i7 l.From∧i7 l.To∧b7 F4 aC aS aT aU l.Kids) ?_ ?_
 ·refine D5 ek rfl (fun em bJ=>?_) (fun em bJ=>?_)
  ·refine j5 (mv rfl (lv (C3 (cs:=#[V6 8,sv [],V3 none 0 0,V6 0,V6 0,V3 Y aa ab]) a7c B1 rfl (by kernel_rfl)) (ls [V6 8,sv [],V3 none 0 0,V6 0,V6 0,V3 Y aa ab] (.agg #[V6 8,sv [],V3 none 0 0,V6 0,V6 0,V3 Y aa ab]) B1 bZ fun fJ en=>(i8 ?_))))
   cases oi bJ
   exact qd ⟨none,0,0,Y,aa,ab,J,rfl,en.f2.f2.s,kr,(by decide :i7 8),(by decide :([]:r4).length≤maxLen),(b7.nil _ _),I5,I5,aO⟩
  refine j3 ?_
  cases oi bJ
  exact qd ⟨bC,bD,bE,bF,bG,bH,J,rfl,bZ.f2.f2.s,kr,eb,ec,ed,ee,ef,eg⟩
 rintro _ fK ⟨aP,aQ,aR,aS,aT,aU,aC,rfl,ax,aD,eo,ep,eq,es,et,eu⟩
 refine qr (mv rfl (lv (j6 (ds:=[V3 B C D,V3 G H I]) B9 rfl m0 ax rfl rfl) (lv (j6 (ds:=[V3 R S T,V3 U V W]) C4 rfl m1 ax rfl rfl) (lv (j6 (ds:=[V6 l.Kind,sv l.Field,V3 aP aQ aR,V6 l.From,V6 l.To,V3 aS aT aU]) B1 rfl m2 ax rfl rfl) (mv rfl ?_)))))
 obtain⟨fL,ev,ew⟩:=ob el
 refine lk b6y (a0b F ax.enter0 (b7.mono ((((((d.le.trans f.le).trans i).trans m).trans k).trans aw).trans aD) ay) (b7.mono ((((((d.le.trans f.le).trans i).trans m).trans k).trans aw).trans aD) az) (b7.mono ((((((d.le.trans f.le).trans i).trans m).trans k).trans aw).trans aD) ba) (b7.mono ((((((d.le.trans f.le).trans i).trans m).trans k).trans aw).trans aD) bb) eo ep eq es et eu bd (hG6.keep ax) hD ev) ?_
 rintro fM fN ⟨fO,fP,fQ,fR,rfl,ca,ex⟩
 have cb:=(ax.c0 ca).t4
 obtain⟨fS,eA,eB⟩:=ob ew
 refine lk b4A (R1 F cb.enter0 (b7.mono ((((((f.le.trans i).trans m).trans k).trans aw).trans aD).trans ca.le) aG) ex eA) ?_
 rintro fT fU ⟨eC,rfl,eD⟩
 have eE:=(cb.c0 eD).t4
 refine av rfl (nq (j9 ?_))
 cases oi eB
 exact ey results4 ⟨eC,rfl,eE.s⟩
end Go.Proofs.YtnloenhmkdpgeaaGreatDoor
