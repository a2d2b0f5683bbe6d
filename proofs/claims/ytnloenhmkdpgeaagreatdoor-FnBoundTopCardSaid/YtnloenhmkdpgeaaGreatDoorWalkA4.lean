/-
 Walks of the functions. Printed by gen.py.
-/
import Derived.Test.YtnloenhmkdpgeaaGreatDoorWalkA0
import Derived.Test.YtnloenhmkdpgeaaGreatDoorWalkA1
import Derived.Test.YtnloenhmkdpgeaaGreatDoorWalkA2
import Derived.Test.YtnloenhmkdpgeaaGreatDoorWalkA3
set_option linter.unusedVariables false
set_option linter.unusedSectionVars false
set_option maxRecDepth 100000
namespace Go.Proofs.YtnloenhmkdpgeaaGreatDoor
set_option maxHeartbeats 4000000
open Go Go.Fk Go.RowKit Tryz
variable (F:Nat){w:World}{K:F9}{Z:List Nat}{g1 g2 g3:Nat}{A B C D G H I J O R S T:Option Addr}{a b c d f i k l m n o p q s v x y aa ab ac ad ae af ag:Nat}
variable [dr:Dr]

theorem a4y {q0:u6}{q1:r4}{r:r4}(hS:SH w K [] w K [])(C:b7 D9 K A a b q0.Stops)(D:b7 L0 K B c d q0.Syns)(o:q1.length≤maxLen)(hm:Z7 F q0 q1=some r):
  Calls prog 19 #[.agg #[V3 A a b,V3 B c d],sv q1] w fun e w'=>∃K',e= .returned (sv r)∧SH w K [] w' K' []∧r.length≤maxLen:=by
 rw [Z7] at hm
 refine ci func19 u ntmps19 (sr (bx u hS fun G af H=>?_))
 have q:SH _ _ _ _ _ [s7 G [V3 A a b,V3 B c d] 26]:=H
 refine lv (r_s u) (O7 (mv u ?_))
 obtain⟨ag,I,J⟩:=ob hm
 refine lk b0l (J5 F q.enter0 o I) ?_
 rintro ah ai ⟨O,rfl,i⟩
 have f:=(q.c0 i).t1
 refine lv (A4 u) (nq (D5 J u (fun R k=>?_) (fun R k=>?_)))
 ·refine sr (lv (r_s u) (nq (rr ?_)))
  cases oi k
  exact ey results19 ⟨O,u,f.s,(by decide :([]:r4).length≤maxLen)⟩
 refine j3 (qr (lv (j6 (ds:=[V3 A a b,V3 B c d]) B9 u m0 f u u) (mv u ?_)))
 obtain⟨aj,S,T⟩:=ob k
 refine lk c1J (a2c F f.enter0 (C.mono i.le) (D.mono i.le) o S) ?_
 rintro ak al ⟨am,an,ao,s,rfl,U,x⟩
 have l:=(f.c0 U).t2
 refine av u (O7 (mv u (lv (q9 underlying104 u x) (lv (A9 u u) (nq (D5 T u (fun V m=>?_) (fun V m=>?_)))))))
 ·refine sr (lv (r_s u) (nq (rr ?_)))
  cases oi m
  exact ey results19 ⟨s,u,l.s,(by decide :([]:r4).length≤maxLen)⟩
 refine j3 (qr (mv u ?_))
 obtain⟨y,W,X⟩:=ob m
 refine li underlying104 M3 x W fun Y aa ap ab ac=>?_
 obtain⟨rfl,ad,aq⟩:=ab
 have ae:F1 _ Y aa [sv y.Text,V6 y.At]:=ac
 refine fa a3Z u (lv (y9 G7 u l (ae 0 _ u)) (av u (nq (j9 ?_))))
 cases oi X
 exact ey results19 ⟨s,u,l.s,ad⟩

theorem Y2 {q0:T0}{q1:u6}{q2:r4}{q3:Int}{r:Int}(hS:SH w K Z w K [s7 g1 [V3 A a b,V3 B c d,V3 C f i,V3 D k l] 113])(af:b7 D9 K A a b q0.c_.Stops)(ag:b7 L0 K B c d q0.c_.Syns)(ah:b7 F6 K C f i q0.s_.Docs)(ai:b7 B8 K D k l q0.s_.Entries)(aj:b7 D9 K G m n q1.Stops)(ak:b7 L0 K H o p q1.Syns)(am:q2.length≤maxLen)(an:i7 q3)(hm:L4 F q0 q1 q2 q3=some r):
  Calls prog 68 #[.pointer (some ⟨g1,2,none⟩),.agg #[V3 G m n,V3 H o p],sv q2,V6 q3] w fun e w'=>∃K',e= .returned (V6 r)∧SH w K Z w' K' [s7 g1 [V3 A a b,V3 B c d,V3 C f i,V3 D k l] 113]∧i7 r:=by
 rw [L4] at hm
 refine ci func68 u ntmps68 (sr (bx u hS fun X aI ao=>?_))
 have ap:SH _ _ _ _ _ [s7 X [V3 G m n,V3 H o p] 26,_]:=ao
 refine lv (N2 u) (nr (mv u (mv u ?_)))
 obtain⟨I,aq,ar⟩:=ob hm
 have Y:=ap.f1
 refine lk c4w (a5J F Y.e1 af ag ah ai an aq) ?_
 rintro aJ aK ⟨J,O,R,S,T,U,aa,rfl,V,au,aw,ax⟩
 have ay:=(Y.c1 V).t2
 refine mv u (lv (y3 u u) (lv (y3 u u) (al E8 ay fun ab aL az=>?_)))
 have aA:SH _ _ _ _ _ [s7 ab [V6 0,V3 none 0 0,V3 none 0 0] 44,_,_]:=az
 refine lw [V6 I.1.Id,V3 J O R,V3 S T U] E8 aA fun aM ac=>(av u (O7 (mv u (lv (A4 u) (nq (D5 ar u (fun aB W=>?_) (fun aB W=>?_)))))))
 ·refine sr (lv (N2 u) (nq (rr ?_)))
  cases oi W
  exact ey results68 ⟨aa,u,ac.s,I5⟩
 refine j3 (qs ?_)
 have q:=ac.drew
 refine wh1 (fun w'=>H0 aa w'∧B0 X [V3 G m n,V3 H o p] w'∧B0 ab [V6 I.1.Id,V3 J O R,V3 S T U] w') (fun w'=>True) 7 [] mixed ⟨q.hasK kr,q.hasObj m2,q.hasObj m0⟩ (fun _=>trivial) (gh (fun _ h=>A0 (ds:=[V3 G m n,V3 H o p]) B9 u u u h.2.1) (gh (fun _ h=>A0 (ds:=[V6 I.1.Id,V3 J O R,V3 S T U]) E8 u u u h.2.2) (gt (i5 u) (gn ?_))))
 obtain⟨aN,aC,aD⟩:=ob W
 refine lk c3R (a6Z F q.enter0 au aw ax am aC) ?_
 rintro aO aP ⟨aQ,rfl,s,aE⟩
 have x:=(q.c0 s).t3
 refine i8 (qh ⟨x.hasK s.le,x.hasObj m2,x.hasObj m0⟩ (fun _=>trivial) (gn ?_))
 obtain⟨aR,aF,aG⟩:=ob aD
 refine lk c1J (a2c F x.enter0 (aj.mono (V.le.trans s.le)) (ak.mono (V.le.trans s.le)) aE aF) ?_
 rintro aS aT ⟨aU,aV,aW,aH,rfl,ad,ae⟩
 have y:=(x.c0 ad).t4
 refine i8 (qh ⟨y.hasK (s.le.trans ad.le),y.hasObj m3,y.hasObj m1⟩ (fun _=>trivial) (gt (q9 underlying104 u ae) (gt (u9 u) (gd' (l5 (j9 ?_))))))
 cases oi aG
 exact ey results68 ⟨aH,u,y.s,ae.rn⟩

theorem a2x {q0:T0}{q1:r4}{q2:r4}{q3:Int}{r:Int}(hS:SH w K Z w K [s7 g1 [V3 A a b,V3 B c d,V3 C f i,V3 D k l] 113])(x:b7 D9 K A a b q0.c_.Stops)(y:b7 L0 K B c d q0.c_.Syns)(s:b7 F6 K C f i q0.s_.Docs)(O:b7 B8 K D k l q0.s_.Entries)(R:q1.length≤maxLen)(ab:q2.length≤maxLen)(au:i7 q3)(hm:M7 F q0 q1 q2 q3=some r):
  Calls prog 83 #[.pointer (some ⟨g1,0,none⟩),sv q1,sv q2,V6 q3] w fun e w'=>∃K',e= .returned (V6 r)∧SH w K Z w' K' [s7 g1 [V3 A a b,V3 B c d,V3 C f i,V3 D k l] 113]∧i7 r:=by
 rw [M7] at hm
 refine ci func83 u ntmps83 (sr (lv (N2 u) (nr (mv u (mv u (mv u (mv u ?_)))))))
 obtain⟨cx,bq,br⟩:=ob hm
 refine lk c1x (a2w F hS.e1 x y s O R ab au bq) ?_
 rintro cy cz ⟨aY,aZ,ba,ac,rfl,m,S⟩
 have aw:=(hS.c1 m).t1
 refine av u (O7 (mv u (lv (q9 underlying46 u S) (lv (A9 u u) (nq (D5 br u (fun bs ax=>?_) (fun bs ax=>?_)))))))
 ·refine sr (lv (N2 u) (nq (rr ?_)))
  cases oi ax
  exact ey results83 ⟨ac,u,aw,I5⟩
 refine j3 (qr (lv (N2 u) (O7 (mv u (lv (B7 u) (fa a6n u (fl L3 u a1b m0 aw u (lv (q9 underlying27 u (s.mono m.le)) (lv (r_m u) ?_)))))))))
 refine nq ?_
 obtain⟨bb,bu,bv⟩:=ob ax
 refine l4 (IW w K Z ac [(0,pt g1),(1,sv q1),(2,sv q2),(3,V6 q3),(9,V3 aY aZ ba),(10,V6 bb)] [s7 g1 [V3 A a b,V3 B c d,V3 C f i,V3 D k l] 113] (i7 bb)) ?_ ?_
 ·refine j7 ?_
  obtain⟨cA,bx,bz⟩:=ob bu
  refine qF (fun (bc:Nat) (ad:Int)=>IW w K Z ac [(0,pt g1),(1,sv q1),(2,sv q2),(3,V6 q3),(9,V3 aY aZ ba),(10,V6 ad),(27,V3 C f i),(28,V6 (q0.s_.Docs.length:Int)),(29,V6 ((bc:Nat):Int))] [s7 g1 [V3 A a b,V3 B c d,V3 C f i,V3 D k l] 113] (i7 ad)) bx ⟨ac,u,aw,kr,I5⟩ ?_ ?_
  ·rintro bc ad _ bA cB hi54 bB ⟨ay,rfl,ae,G,bd⟩
   refine sr (lv (u7 u u) (ns (C9 u (b8 (by omega)) (j3 (l5 (o4 (j7 (sr ?_))))))))
   obtain⟨az,bC,bD⟩:=ob bB
   refine li underlying27 E8 (s.mono (m.le.trans G)) bC fun bE bF cC bG bH=>?_
   obtain⟨aA,aB,aC,aD,aE,aF,rfl,bI,cD,cE⟩:=bG
   have bJ:F1 _ bE bF [V6 az.Id,V3 aA aB aC,V3 aD aE aF]:=bH
   refine lv (F3 E8 u ae bJ u) (al E8 ae fun be cF bK=>?_)
   have bL:SH _ _ _ _ _ [s7 be [V6 0,V3 none 0 0,V3 none 0 0] 44,_]:=bK
   refine lw [V6 az.Id,V3 aA aB aC,V3 aD aE aF] E8 bL fun cG bM=>(nq ?_)
   have af:=bM.drew
   refine wh1 (fun w'=>H0 ay w'∧B0 g1 [V3 A a b,V3 B c d,V3 C f i,V3 D k l] w'∧B0 be [V6 az.Id,V3 aA aB aC,V3 aD aE aF] w') (fun w'=>True) 14 [] mixed ⟨af.hasK kr,af.hasObj m1,af.hasObj m0⟩ (fun _=>trivial) (gt (i5 u) (gt (i5 u) (gt (B7 u) (gt (c7 a6n u) (gt (i5 u) (gt (B7 u) (gt (c7 b2Y u) (gh (fun _ h=>A0 (ds:=[V3 A a b,V3 B c d]) B9 u u u h.2.1) (gt (i5 u) ?_)))))))))
   refine gt (c7 P6 u) (gh (fun _ h=>B5 E6 u u h.2.2) (gn ?_))
   obtain⟨cH,bN,bO⟩:=ob bD
   have bf:=af.f1
   refine lk c2S (Y2 F bf.e1 (x.mono (m.le.trans G)) (y.mono (m.le.trans G)) (s.mono (m.le.trans G)) (O.mono (m.le.trans G)) (x.mono (m.le.trans G)) (y.mono (m.le.trans G)) R bI bN) ?_
   rintro cI cJ ⟨bP,rfl,aG,cK⟩
   have ag:=(bf.c1 aG).t2
   refine i8 (qh ⟨ag.hasK aG.le,ag.hasObj m0,ag.hasObj m1⟩ (fun _=>trivial) (gt (y7 u u) (gt (u9 u) (gd' (x8 (qg (lv (B6 u u (C6 hi54 (b7.max (s.mono m.le)))) (mv u (i8 ?_)))))))))
   cases oi bO
   exact qd ⟨bP,u,ag.s,(G.trans aG.le),(u0 _)⟩
  rintro ad _ bA bQ ⟨ay,rfl,ae,G,bd⟩
  subst bQ
  refine sr (lv (u7 u u) (ns (C8 u (c6 (by omega)) (y4 (g8 (g8 (l6 ?_)))))))
  cases oi bz
  exact qd ⟨ay,u,ae,G,bd⟩
 rintro _ cL ⟨bg,rfl,bR,o,ah⟩
 refine qs ?_
 obtain⟨T,bS,bT⟩:=ob bv
 refine l4 (fun E' w'=>∃aH aI,E'=[(0,pt g1),(13,pt aH)]∧SH w K Z w' aI [s7 aH [V6 T.Up,V6 T.Down] 50,s7 g1 [V3 A a b,V3 B c d,V3 C f i,V3 D k l] 113]∧M0 bg aI∧i7 T.Up∧i7 T.Down) ?_ ?_
 ·obtain⟨cM,bh,bU⟩:=ob bS
  obtain⟨cN,aJ,bV⟩:=ob bU
  obtain⟨J,ai,aj⟩:=ob bV
  have U:=bR.drew
  refine j_0 (fun w'=>H0 bg w'∧B0 g1 [V3 A a b,V3 B c d,V3 C f i,V3 D k l] w') 33 [] mixed ⟨U.hasK kr,U.hasObj m0⟩ (jv 0 u (i5 u) (jv 1 u (q9 underlying46 u (S.mono o)) (jv 2 u (i5 u) (jv 3 u (B7 u) (jv 4 u (c7 a6n u) (jv 5 u (i5 u) (jv 6 u (B7 u) (jv 7 u (c7 b2Y u) (jh 8 u (fun _ h=>A0 (ds:=[V3 A a b,V3 B c d]) B9 u u u h.2) ?_)))))))))
  refine jv 9 u (i5 u) (jv 10 u (i5 u) (jv 12 u (i5 u) (jv 13 u (i5 u) (jv 14 u (B7 u) (jv 15 u (c7 a6n u) (jv 16 u (c7 L3 u) (jh 17 u (fun _ h=>B5 a1b u u h.2) (jv 18 u (q9 underlying27 u (s.mono (m.le.trans o))) (jv 19 u (i5 u) ?_)))))))))
  refine jv 20 u (B7 u) (jv 21 u (c7 a6n u) (jv 22 u (i5 u) (jv 23 u (i5 u) (j2 11 30 u u ?_ ?_))))
  ·refine lk c2S (Y2 F U.e1 (x.mono (m.le.trans o)) (y.mono (m.le.trans o)) (s.mono (m.le.trans o)) (O.mono (m.le.trans o)) (x.mono (m.le.trans o)) (y.mono (m.le.trans o)) R au bh) ?_
   rintro cO cP ⟨cQ,rfl,q,aK⟩
   have V:=(U.c1 q).t1
   refine P0 ⟨V.hasK q.le,V.hasObj m0⟩ (j2 24 30 u u ?_ ?_)
   ·refine lk c1I (Q4 F V.e1 (x.mono ((m.le.trans o).trans q.le)) (y.mono ((m.le.trans o).trans q.le)) (s.mono ((m.le.trans o).trans q.le)) (O.mono ((m.le.trans o).trans q.le)) R ab aJ) ?_
    rintro cR cS ⟨cT,cU,cV,cW,rfl,H,aL⟩
    have W:=(V.c1 H).t1
    refine P0 ⟨W.hasK (q.le.trans H.le),W.hasObj m0⟩ (jv 25 u (q9 underlying37 u aL) (j2 26 30 u u ?_ ?_))
    ·refine lk b4z (M6 F W.enter0 (S.mono o).rn aK ah (s.mono (m.le.trans o)).rn aL.rn ai) ?_
     rintro cX cY ⟨bW,rfl,X,bX,bY⟩
     have aM:=(W.c0 X).t1
     refine P0 ⟨aM.hasK ((q.le.trans H.le).trans X.le),aM.hasObj m0⟩ (jv 27 u (i5 u) (jv 28 u (y3 u u) (jv 29 u (y3 u u) (j1 30 u (al V4 aM fun bi cZ bZ=>?_)))))
     have aN:SH _ _ _ _ _ [s7 bi [V6 0,V6 0] 50,_]:=bZ
     refine P0 ⟨aN.hasK ((q.le.trans H.le).trans X.le),aN.hasObj m1⟩ (j1 31 u (lw [V6 J.1.Up,V6 J.1.Down] V4 aN fun da aO=>(P0 ⟨aO.hasK ((q.le.trans H.le).trans X.le),aO.hasObj m1⟩ (jv 32 u (u9 u) (jd ?_)))))
     cases oi aj
     exact qd ⟨bi,bW,u,aO,((q.le.trans H.le).trans X.le),bX,bY⟩
    refine al V4 W fun bj db ca=>?_
    have ak:SH _ _ _ _ _ [s7 bj [V6 0,V6 0] 50,_]:=ca
    refine P0 ⟨ak.hasK (q.le.trans H.le),ak.hasObj m1⟩ (j1 26 u (lk b4z (M6 F ak.enter0 (S.mono o).rn aK ah (s.mono (m.le.trans o)).rn aL.rn ai) ?_))
    rintro dc dd ⟨cb,rfl,am,cc,cd⟩
    have aP:=(ak.c0 am).t2
    refine P0 ⟨aP.hasK ((q.le.trans H.le).trans am.le),aP.hasObj m1⟩ (jv 27 u (i5 u) (jv 28 u (y3 u u) (jv 29 u (y3 u u) (j1 31 u (lw [V6 J.1.Up,V6 J.1.Down] V4 aP fun de aQ=>(P0 ⟨aQ.hasK ((q.le.trans H.le).trans am.le),aQ.hasObj m1⟩ (jv 32 u (u9 u) (jd ?_))))))))
    cases oi aj
    exact qd ⟨bj,cb,u,aQ,((q.le.trans H.le).trans am.le),cc,cd⟩
   refine al V4 V fun bk df ce=>?_
   have aR:SH _ _ _ _ _ [s7 bk [V6 0,V6 0] 50,_]:=ce
   refine P0 ⟨aR.hasK q.le,aR.hasObj m1⟩ (j1 24 u ?_)
   have bl:=aR.f1
   refine lk c1I (Q4 F bl.e1 (x.mono ((m.le.trans o).trans q.le)) (y.mono ((m.le.trans o).trans q.le)) (s.mono ((m.le.trans o).trans q.le)) (O.mono ((m.le.trans o).trans q.le)) R ab aJ) ?_
   rintro dg dh ⟨di,dj,dk,dl,rfl,Y,bm⟩
   have an:=(bl.c1 Y).t2
   refine P0 ⟨an.hasK (q.le.trans Y.le),an.hasObj m0⟩ (jv 25 u (q9 underlying37 u bm) (j1 26 u (lk b4z (M6 F an.enter0 (S.mono o).rn aK ah (s.mono (m.le.trans o)).rn bm.rn ai) ?_)))
   rintro dm dn ⟨cf,rfl,ao,cg,ch⟩
   have aS:=(an.c0 ao).t2
   refine P0 ⟨aS.hasK ((q.le.trans Y.le).trans ao.le),aS.hasObj m0⟩ (jv 27 u (i5 u) (jv 28 u (y3 u u) (jv 29 u (y3 u u) (j1 31 u (lw [V6 J.1.Up,V6 J.1.Down] V4 aS.f1 fun dp aT=>(P0 ⟨aT.hasK ((q.le.trans Y.le).trans ao.le),aT.hasObj m1⟩ (jv 32 u (u9 u) (jd ?_))))))))
   cases oi aj
   exact qd ⟨bk,cf,u,aT,((q.le.trans Y.le).trans ao.le),cg,ch⟩
  refine al V4 U fun bn dq cj=>?_
  have aU:SH _ _ _ _ _ [s7 bn [V6 0,V6 0] 50,_]:=cj
  refine P0 ⟨aU.hasK kr,aU.hasObj m1⟩ (j1 11 u ?_)
  have bo:=aU.f1
  refine lk c2S (Y2 F bo.e1 (x.mono (m.le.trans o)) (y.mono (m.le.trans o)) (s.mono (m.le.trans o)) (O.mono (m.le.trans o)) (x.mono (m.le.trans o)) (y.mono (m.le.trans o)) R au bh) ?_
  rintro dr dt ⟨du,rfl,I,ck⟩
  have ap:=(bo.c1 I).t2
  refine P0 ⟨ap.hasK I.le,ap.hasObj m0⟩ (j1 24 u (lk c1I (Q4 F ap.e1 (x.mono ((m.le.trans o).trans I.le)) (y.mono ((m.le.trans o).trans I.le)) (s.mono ((m.le.trans o).trans I.le)) (O.mono ((m.le.trans o).trans I.le)) R ab aJ) ?_))
  rintro dv dw ⟨dx,dy,dz,dA,rfl,aa,bp⟩
  have aq:=(ap.c1 aa).t2
  refine P0 ⟨aq.hasK (I.le.trans aa.le),aq.hasObj m0⟩ (jv 25 u (q9 underlying37 u bp) (j1 26 u (lk b4z (M6 F aq.enter0 (S.mono o).rn ck ah (s.mono (m.le.trans o)).rn bp.rn ai) ?_)))
  rintro dB dC ⟨cl,rfl,ar,cm,cn⟩
  have aV:=(aq.c0 ar).t2
  refine P0 ⟨aV.hasK ((I.le.trans aa.le).trans ar.le),aV.hasObj m0⟩ (jv 27 u (i5 u) (jv 28 u (y3 u u) (jv 29 u (y3 u u) (j1 31 u (lw [V6 J.1.Up,V6 J.1.Down] V4 aV.f1 fun dD aW=>(P0 ⟨aW.hasK ((I.le.trans aa.le).trans ar.le),aW.hasObj m1⟩ (jv 32 u (u9 u) (jd ?_))))))))
  cases oi aj
  exact qd ⟨bn,cl,u,aW,((I.le.trans aa.le).trans ar.le),cm,cn⟩
 rintro _ dE ⟨aH,aI,rfl,aX,dF,cp,cq⟩
 refine qr (lv (j6 (ds:=[V6 T.Up,V6 T.Down]) V4 u m0 aX u u) ?_)
 obtain⟨dG,cr,cs⟩:=ob bT
 refine lk c4u (a4T F aX.enter0 cp cq (by decide :i7 1000) cr) ?_
 rintro dH dI ⟨ct,rfl,cu,cv⟩
 have cw:=(aX.c0 cu).t2
 refine av u (nq (j9 ?_))
 cases oi cs
 exact ey results83 ⟨ct,u,cw.s,cv⟩

theorem a7U {q0:T0}{q1:q7}{q2:A1}{r:Int}(hS:SH w K Z w K [s7 g1 [V3 A a b,V3 B c d,V3 C f i,V3 D k l] 113])(aQ:b7 D9 K A a b q0.c_.Stops)(aR:b7 L0 K B c d q0.c_.Syns)(bc:b7 F6 K C f i q0.s_.Docs)(bd:b7 B8 K D k l q0.s_.Entries)(du:i7 q1.Kind)(be:q1.Field.length≤maxLen)(bp:b7 D9 K G m n q1.Words)(bq:i7 q1.From)(dv:i7 q1.To)(dw:b7 F4 K H o p q1.Kids)(bf:i7 q2.Id)(dx:b7 K5 K I q s q2.Fields)(dy:b7 N0 K J v x q2.Nums)(hD: ¬dr.D)(hm:W4 F q0 q1 q2=some r):
  Calls prog 127 #[.pointer (some ⟨g1,0,none⟩),.agg #[V6 q1.Kind,sv q1.Field,V3 G m n,V6 q1.From,V6 q1.To,V3 H o p],.agg #[V6 q2.Id,V3 I q s,V3 J v x]] w fun e w'=>∃K',e= .returned (V6 r)∧SH w K Z w' K' [s7 g1 [V3 A a b,V3 B c d,V3 C f i,V3 D k l] 113]∧i7 r:=by
 rw [W4] at hm
 refine ci func127 u ntmps127 (sr (bx u hS fun U dz br=>?_))
 have bs:SH _ _ _ _ _ [s7 U [V6 q1.Kind,sv q1.Field,V3 G m n,V6 q1.From,V6 q1.To,V3 H o p] 35,_]:=br
 refine bx u bs fun ac dA bu=>?_
 have bv:SH _ _ _ _ _ [s7 ac [V6 q2.Id,V3 I q s,V3 J v x] 44,_,_]:=bu
 refine lv (N2 u) (ns ?_)
 have aw:=bv.drew
 refine wh1 (fun w'=>H0 K w'∧B0 g1 [V3 A a b,V3 B c d,V3 C f i,V3 D k l] w'∧B0 U [V6 q1.Kind,sv q1.Field,V3 G m n,V6 q1.From,V6 q1.To,V3 H o p] w') (fun w'=>True) 9 [] mixed ⟨aw.hasK kr,aw.hasObj m2,aw.hasObj m1⟩ (fun _=>trivial) (gt (i5 u) (gt (B7 u) (gt (c7 b2Y u) (gh (fun _ h=>A0 (ds:=[V3 A a b,V3 B c d]) B9 u u u h.2.1) (gt (c7 a0B u) (gh (fun _ h=>B5 W1 u u h.2.2) (gn ?_)))))))
 obtain⟨dB,bz,bA⟩:=ob hm
 refine lk c52 (c0n Tryz.strings_Join_none Tryz.strings_Join aw.enter0 bp hD bz) ?_
 rintro dC dD ⟨dE,rfl,y,bB⟩
 have ax:=(aw.c0 y).t3
 refine i8 (qh ⟨ax.hasK y.le,ax.hasObj m2,ax.hasObj m1⟩ (fun _=>trivial) (gn ?_))
 obtain⟨aS,bC,bD⟩:=ob bA
 refine lk c1J (a2c F ax.enter0 (aQ.mono y.le) (aR.mono y.le) bB bC) ?_
 rintro dF dG ⟨ah,ai,aj,bE,rfl,V,ay⟩
 have az:=(ax.c0 V).t4
 refine i8 (qh ⟨az.hasK (y.le.trans V.le),az.hasObj m3,az.hasObj m2⟩ (fun _=>trivial) (gt (u9 u) (gd' (qs (sr (mv u (lv (q9 underlying104 u ay) (lv (A9 u u) (nq (D5 bD u (fun bF aT=>?_) (fun bF aT=>?_)))))))))))
 ·refine sr (lv (N2 u) (nq (rr ?_)))
  cases oi aT
  exact ey results127 ⟨bE,u,az.s,I5⟩
 refine j3 (qr (a6j (X2 D6) wn u underlying195 a1g az fun bG dH aU R bH bI=>(av u (nr (lv (N2 u) (O7 (mv u (lv (q9 underlying104 u (ay.mono R)) (lv (r_m u) ?_)))))))))
 refine nq ?_
 obtain⟨aV,bJ,bK⟩:=ob aT
 refine l4 (fun E' w'=>∃aD aE aF aG,E'=[(0,pt g1),(4,pt U),(8,V3 aD aE aF),(9,V6 aV.2)]∧SH w K Z w' aG [s7 g1 [V3 A a b,V3 B c d,V3 C f i,V3 D k l] 113,s7 U [V6 q1.Kind,sv q1.Field,V3 G m n,V6 q1.From,V6 q1.To,V3 H o p] 35,tail (V3 aD aE aF) 46 1]∧M0 aU aG∧b7 (X2 D6) aG aD aE aF aV.1∧i7 aV.2) ?_ ?_
 ·refine j7 ?_
  obtain⟨dI,bL,bM⟩:=ob bJ
  have bN:=bI.f2.f3.f4.sb (sk (sk (sk (sk (sd sz)))))
  refine qF (fun (ab:Nat) (ad:(List (List Int))×Int) E' w'=>∃W X Y ak,E'=[(0,pt g1),(4,pt U),(5,pt ac),(7,V3 ah ai aj),(8,V3 W X Y),(9,V6 ad.2),(28,V3 ah ai aj),(29,V6 (aS.length:Int)),(30,V6 ((ab:Nat):Int))]∧SH w K Z w' ak [s7 g1 [V3 A a b,V3 B c d,V3 C f i,V3 D k l] 113,s7 U [V6 q1.Kind,sv q1.Field,V3 G m n,V6 q1.From,V6 q1.To,V3 H o p] 35,s7 ac [V6 q2.Id,V3 I q s,V3 J v x] 44,tail (V3 W X Y) 46 1]∧M0 aU ak∧b7 (X2 D6) ak W X Y ad.1∧i7 ad.2) bL ⟨bG,0,0,aU,u,bN,kr,bH,I5⟩ ?_ ?_
  ·rintro ab ad _ bO dJ hi110 bP ⟨W,X,Y,ak,rfl,aH,O,aW,bg⟩
   refine sr (lv (u7 u u) (ns (C9 u (b8 (by omega)) (j3 (l5 (o4 (j7 (sr (mv u ?_)))))))))
   obtain⟨S,bQ,bR⟩:=ob bP
   refine li underlying104 M3 (ay.mono (R.trans O)) bQ fun bS bT dK bU bV=>?_
   obtain⟨rfl,bh,dL⟩:=bU
   have bW:F1 _ bS bT [sv S.Text,V6 S.At]:=bV
   refine lv (F3 M3 u aH bW u) (al M3 aH fun aA dM bX=>?_)
   have bY:SH _ _ _ _ _ [s7 aA [sv [],V6 0] 107,_,_,_,_]:=bX
   refine av u (lw [sv S.Text,V6 S.At] M3 bY fun dN bZ=>(nr (b0 D6 underlying46 E6 bZ fun ca dO dP T cb aI=>(av u (O7 (mv u (fl Z3 u G7 m3 aI u (fl a3Z u G7 m1 aI u (fl P6 u E6 m4 aI u ?_)))))))))
   obtain⟨cc,cd,ce⟩:=ob bR
   have bi:=aI.f2
   refine lk c1x (a2w F bi.e1 (b7.mono ((((y.le.trans V.le).trans R).trans O).trans T) aQ) (b7.mono ((((y.le.trans V.le).trans R).trans O).trans T) aR) (b7.mono ((((y.le.trans V.le).trans R).trans O).trans T) bc) (b7.mono ((((y.le.trans V.le).trans R).trans O).trans T) bd) be bh bf cd) ?_
   rintro dQ dR ⟨cf,cg,ch,aX,rfl,aa,aJ⟩
   have cj:=(bi.c1 aa).t6
   refine lv (q9 underlying46 u aJ) (lv (r_m u) (nq ?_))
   obtain⟨bj,ck,cl⟩:=ob ce
   refine l4 (fun E' w'=>∃am an ao aK,E'=[(0,pt g1),(4,pt U),(5,pt ac),(7,V3 ah ai aj),(8,V3 W X Y),(9,V6 ad.2),(11,pt aA),(12,V3 am an ao),(28,V3 ah ai aj),(29,V6 (aS.length:Int)),(30,V6 ((ab:Nat):Int))]∧SH w K Z w' aK [s7 g1 [V3 A a b,V3 B c d,V3 C f i,V3 D k l] 113,s7 U [V6 q1.Kind,sv q1.Field,V3 G m n,V6 q1.From,V6 q1.To,V3 H o p] 35,s7 ac [V6 q2.Id,V3 I q s,V3 J v x] 44,s7 aA [sv S.Text,V6 S.At] 107,tail (V3 W X Y) 46 1,tail (V3 am an ao) 3 1]∧M0 aX aK∧b7 D6 aK am an ao bj) ?_ ?_
   ·refine j7 ?_
    obtain⟨dS,cm,cn⟩:=ob ck
    refine qF (fun (bk:Nat) (aY:(List Int)) E' w'=>∃ae af ag ap,E'=[(0,pt g1),(4,pt U),(5,pt ac),(7,V3 ah ai aj),(8,V3 W X Y),(9,V6 ad.2),(10,V6 ((ab:Nat):Int)),(11,pt aA),(12,V3 ae af ag),(28,V3 ah ai aj),(29,V6 (aS.length:Int)),(30,V6 ((ab:Nat):Int)),(43,V3 cf cg ch),(44,V6 (cc.length:Int)),(45,V6 ((bk:Nat):Int))]∧SH w K Z w' ap [s7 g1 [V3 A a b,V3 B c d,V3 C f i,V3 D k l] 113,s7 U [V6 q1.Kind,sv q1.Field,V3 G m n,V6 q1.From,V6 q1.To,V3 H o p] 35,s7 ac [V6 q2.Id,V3 I q s,V3 J v x] 44,s7 aA [sv S.Text,V6 S.At] 107,tail (V3 W X Y) 46 1,tail (V3 ae af ag) 3 1]∧M0 aX ap∧b7 D6 ap ae af ag aY) cm ⟨ca,0,0,aX,u,cj.f1.f5.f3.f5.f5.f5,kr,(cb.mono aa.le)⟩ ?_ ?_
    ·rintro bk aY _ cp dT hi180 cq ⟨ae,af,ag,ap,rfl,aL,aq,aM⟩
     refine sr (lv (u7 u u) (ns (C9 u (b8 (by omega)) (j3 (l5 (o4 (j7 (sr ?_))))))))
     obtain⟨aN,cr,cs⟩:=ob cq
     refine li underlying46 E6 (aJ.mono aq) cr fun ct cu dU cv cw=>?_
     obtain⟨rfl,dV⟩:=cv
     have cx:F1 _ ct cu [V6 aN]:=cw
     refine lv (y9 E6 u aL (cx 0 _ u)) (av u (ns (D4 mixed (by kernel_rfl) aL (km u (kv (c7 a30 u) (kh (z6 E6 u m3 u) (km u ?_)))))))
     obtain⟨aB,cy,cz⟩:=ob cs
     refine ki underlying104 M3 (b7.mono ((((R.trans O).trans T).trans aa.le).trans aq) ay) cy fun cA cB dW cC cD=>?_
     obtain⟨rfl,dX,dY⟩:=cC
     have cE:F1 _ cA cB [sv aB.Text,V6 aB.At]:=cD
     refine kv (c7 a30 u) (kh (C1 E6 u (cE 1 _ u)) (kv (I6 u u) (km u (kv (I6 u u) (kv (I6 u u) (kv (u9 u) (B4 ?_)))))))
     rintro dZ ⟨cF,bl,aO⟩
     refine qr (mv u (lv (a3B u u) (nq (D5 cz u (fun cG aZ=>?_) (fun cG aZ=>?_)))))
     ·refine j5 (mv u (mv u (lb D6 (V6 (z8 (aN-(z8 ((z8 (S.At-aB.At))-((ab:Nat):Int)))))) [V6 (z8 (aN-(z8 ((z8 (S.At-aB.At))-((ab:Nat):Int)))))] (z8 (aN-(z8 ((z8 (S.At-aB.At))-((ab:Nat):Int))))) underlying46 E6 ⟨u,(u0 _)⟩ bl fun ea eb ec bm cH cI=>?_)))
      obtain⟨ed,cJ,cK⟩:=ob aZ
      refine lp underlying46 E6 (aM.mono (aO.trans bm)) cH cJ cI.f6 fun cL cM cN ee cO cP cQ cR=>(av u (nb (qg (lv (B6 u u (C6 hi180 (b7.max aJ))) (mv u (i8 ?_))))))
      cases oi cK
      exact qd ⟨cL,cM,cN,cO,u,cR.f6.f6.f6.f6.f6.s,(((aq.trans aO).trans bm).trans cP),cQ⟩
     refine j3 (x8 (qg (lv (B6 u u (C6 hi180 (b7.max aJ))) (mv u (i8 ?_)))))
     cases oi aZ
     exact qd ⟨ae,af,ag,cF,u,bl,(aq.trans aO),(aM.mono aO)⟩
    rintro aY _ cp cS ⟨ae,af,ag,ap,rfl,aL,aq,aM⟩
    subst cS
    refine sr (lv (u7 u u) (ns (C8 u (c6 (by omega)) (y4 (g8 (g8 (l6 ?_)))))))
    cases oi cn
    exact qd ⟨ae,af,ag,ap,u,aL,aq,aM⟩
   rintro _ ef ⟨am,an,ao,aK,rfl,cT,ar,cU⟩
   refine qr (mv u (mv u (lb (X2 D6) (V3 am an ao) [V3 am an ao] bj underlying195 a1g ⟨_,_,_,u,cU⟩ cT fun eg eh ei au cV cW=>?_)))
   obtain⟨ej,cX,cY⟩:=ob cl
   refine lp underlying195 a1g (b7.mono (((T.trans aa.le).trans ar).trans au) aW) cV cX cW.f5 fun cZ da db ek el aC dc aP=>(av u (nq (j5 (mv u (mv u (fl Z3 u G7 m3 aP u (fl a3Z u G7 m5 aP u (fl P6 u E6 m4 aP u ?_))))))))
   obtain⟨em,dd,de⟩:=ob cY
   have bn:=aP.f2
   refine lk c4B (a2x F bn.e1 (b7.mono ((((((((y.le.trans V.le).trans R).trans O).trans T).trans aa.le).trans ar).trans au).trans aC) aQ) (b7.mono ((((((((y.le.trans V.le).trans R).trans O).trans T).trans aa.le).trans ar).trans au).trans aC) aR) (b7.mono ((((((((y.le.trans V.le).trans R).trans O).trans T).trans aa.le).trans ar).trans au).trans aC) bc) (b7.mono ((((((((y.le.trans V.le).trans R).trans O).trans T).trans aa.le).trans ar).trans au).trans aC) bd) be bh bf dd) ?_
   rintro en eo ⟨df,rfl,ba,ep⟩
   have dg:=(bn.c1 ba).t7
   refine lv (y7 u u) (av u (nb (qg (lv (B6 u u (C6 hi110 (b7.max (ay.mono R)))) (mv u (i8 ?_))))))
   cases oi de
   exact qd ⟨cZ,da,db,df,u,dg.f1.f4.f4.f3.s,((((((O.trans T).trans aa.le).trans ar).trans au).trans aC).trans ba.le),(dc.mono ba.le),(u0 _)⟩
  rintro ad _ bO dh ⟨W,X,Y,ak,rfl,aH,O,aW,bg⟩
  subst dh
  refine sr (lv (u7 u u) (ns (C8 u (c6 (by omega)) (y4 (g8 (g8 (l6 ?_)))))))
  cases oi bM
  exact qd ⟨W,X,Y,ak,u,aH.s,O,aW,bg⟩
 rintro _ eq ⟨aD,aE,aF,aG,rfl,bb,es,di,et⟩
 refine qr (mv u (fl a1w u E6 m1 bb u ?_))
 obtain⟨eu,dj,dk⟩:=ob bK
 refine lk c53 (b1s F bb.enter0 di bq dj) ?_
 rintro ev ew ⟨ex,eA,eB,dl,rfl,dm,dn⟩
 have dp:=(bb.c0 dm).t4
 refine lv (q9 underlying46 u dn) (lv (b9y u u) (mv u (lv (U4 u u) ?_)))
 obtain⟨eC,dq,dt⟩:=ob dk
 have bo:=oi dq
 refine lv (b9v u (congrArg (Value.int .i64) bo)) (nq (j9 ?_))
 cases oi dt
 exact ey results127 ⟨dl,u,dp.s,(c1r bo (u0 _))⟩

theorem a5s (F:Nat): ∀{w:World} {K:F9} {g1:Nat} {a:Option Addr} {b c:Nat} {d:Option Addr} {f i:Nat} {k:Option Addr} {l m:Nat} {o:Option Addr} {q s:Nat} {O:Option Addr} {R S:Nat} {G:Option Addr} {H I:Nat} {x:Option Addr} {y A:Nat} {B:Option Addr} {C D:Nat} {q0:T0} {q1:q7} {q2:A1} {r:Int} (hS:SH w K (List.flatMap F5.gs [s7 g1 [V3 a b c,V3 d f i,V3 k l m,V3 o q s] 113]) w K [s7 g1 [V3 a b c,V3 d f i,V3 k l m,V3 o q s] 113]) (W:b7 D9 K a b c q0.c_.Stops) (X:b7 L0 K d f i q0.c_.Syns) (aa:b7 F6 K k l m q0.s_.Docs) (ab:b7 B8 K o q s q0.s_.Entries) (bM:i7 q1.Kind) (af:q1.Field.length≤maxLen) (aC:b7 D9 K O R S q1.Words) (aK:i7 q1.From) (aX:i7 q1.To) (aj:b7 F4 K G H I q1.Kids) (ac:i7 q2.Id) (ak:b7 K5 K x y A q2.Fields) (am:b7 N0 K B C D q2.Nums) (hD: ¬dr.D) (hm:E4 F q0 q1 q2=some r),
  Calls prog 70 #[.pointer (some ⟨g1,0,none⟩),.agg #[V6 q1.Kind,sv q1.Field,V3 O R S,V6 q1.From,V6 q1.To,V3 G H I],.agg #[V6 q2.Id,V3 x y A,V3 B C D]] w fun e w'=>∃K',e= .returned (V6 r)∧SH w K (List.flatMap F5.gs [s7 g1 [V3 a b c,V3 d f i,V3 k l m,V3 o q s] 113]) w' K' [s7 g1 [V3 a b c,V3 d f i,V3 k l m,V3 o q s] 113]∧i7 r:=by
 induction F with
 | zero=>intros;rename_i hm;rw [E4] at hm;cases hm
 | succ F ih=>
  intro w K g1 a b c d f i k l m o q s O R S G H I x y A B C D q0 q1 q2 r hS W X aa ab bM af aC aK aX aj ac ak am hD hm
  rw [E4] at hm
  refine ci func70 u ntmps70 (sr (bx u hS fun J hn cU=>?_))
  have cV:SH _ _ _ _ _ [s7 J [V6 q1.Kind,sv q1.Field,V3 O R S,V6 q1.From,V6 q1.To,V3 G H I] 35,_]:=cU
  refine bx u cV fun T ho cW=>?_
  have U:SH _ _ _ _ _ [s7 T [V6 q2.Id,V3 x y A,V3 B C D] 44,_,_]:=cW
  refine lv (N2 u) (O7 (fl a6x u E6 m1 U u (nq (j7 (sr (lv (A9 u u) (av u (nq (R9 u (fun aY=>?_) (fun aY=>?_))))))))))
  ·have aZ:=a1a aY hm
   refine sr (lv (u9 (v:=V6 100) u) (nq (j9 (i9 (c9 ?_)))))
   cases oi aZ
   exact ey results70 ⟨K,u,U.s,(by decide :i7 100)⟩
  have aZ:=a09 aY hm
  refine sr (lv (A9 u u) (av u (nq (D5 aZ u (fun cX ba=>?_) (fun cX ba=>?_)))))
  ·refine o4 ?_
   have aB:=U.drew
   refine j_0 (fun w'=>H0 K w'∧B0 J [V6 q1.Kind,sv q1.Field,V3 O R S,V6 q1.From,V6 q1.To,V3 G H I] w'∧B0 g1 [V3 a b c,V3 d f i,V3 k l m,V3 o q s] w'∧B0 T [V6 q2.Id,V3 x y A,V3 B C D] w') 16 [] mixed ⟨aB.hasK kr,aB.hasObj m1,aB.hasObj m2,aB.hasObj m0⟩ (jv 0 u (i5 u) (jv 1 u (c7 Z3 u) (jh 2 u (fun _ h=>B5 G7 u u h.2.1) (jv 3 u (i5 u) (jv 4 u (B7 u) (jv 5 u (c7 b2Y u) (jh 6 u (fun _ h=>A0 (ds:=[V3 a b c,V3 d f i]) B9 u u u h.2.2.1) (jv 7 u (c7 a0B u) (jh 8 u (fun _ h=>B5 W1 u u h.2.1) ?_)))))))))
   obtain⟨cY,cZ,da⟩:=ob ba
   refine ji 9 u underlying23 G7 aC cZ fun db dc hp dd de=>?_
   obtain⟨rfl,df⟩:=dd
   have dg:F1 _ db dc [sv cY]:=de
   refine jh 10 u (fun _ h=>a0Y G7 u (dg 0 _ u) h.1) (jv 12 u (c7 P6 u) (jh 13 u (fun _ h=>B5 E6 u u h.2.2.2) (j1 11 u ?_)))
   obtain⟨hq,dh,di⟩:=ob da
   refine lk c2P (a4y F aB.enter0 W X df dh) ?_
   rintro hr ht ⟨hu,rfl,aq,dj⟩
   have aD:=(aB.c0 aq).t3
   refine P0 ⟨aD.hasK aq.le,aD.hasObj m1,aD.hasObj m2,aD.hasObj m0⟩ (j1 14 u ?_)
   obtain⟨hv,dk,dl⟩:=ob di
   have bN:=aD.f2
   refine lk c4B (a2x F bN.e1 (W.mono aq.le) (X.mono aq.le) (aa.mono aq.le) (ab.mono aq.le) af dj ac dk) ?_
   rintro hw hx ⟨dm,rfl,bO,dn⟩
   have aE:=(bN.c1 bO).t3
   refine P0 ⟨aE.hasK (aq.le.trans bO.le),aE.hasObj m2,aE.hasObj m0,aE.hasObj m1⟩ (jv 15 u (u9 u) (jd (l5 (j9 (i9 (c9 ?_))))))
   cases oi dl
   exact ey results70 ⟨dm,u,aE.s,dn⟩
  refine sr (lv (A9 u u) (av u (nq (D5 ba u (fun dp bb=>?_) (fun dp bb=>?_)))))
  ·refine sr (mv u (lv (j6 (ds:=[V6 q1.Kind,sv q1.Field,V3 O R S,V6 q1.From,V6 q1.To,V3 G H I]) B1 u m1 U u u) (lv (j6 (ds:=[V6 q2.Id,V3 x y A,V3 B C D]) E8 u m0 U u u) ?_)))
   obtain⟨hy,dq,dt⟩:=ob bb
   have bP:=U.f2
   refine lk c5E (a7U F bP.e1 W X aa ab bM af aC aK aX aj ac ak am hD dq) ?_
   rintro hz hA ⟨du,rfl,dv,dw⟩
   have dx:=(bP.c1 dv).t3
   refine av u (nq (j9 (i9 (c9 ?_))))
   cases oi dt
   exact ey results70 ⟨du,u,dx.s,dw⟩
  refine sr (lv (A9 u u) (av u (nq (D5 bb u (fun dy bc=>?_) (fun dy bc=>?_)))))
  ·refine sr (lv (N2 u) (ns (o4 ?_)))
   have bd:=U.drew
   refine j_0 (fun w'=>H0 K w'∧B0 J [V6 q1.Kind,sv q1.Field,V3 O R S,V6 q1.From,V6 q1.To,V3 G H I] w') 8 [] mixed ⟨bd.hasK kr,bd.hasObj m1⟩ (jv 0 u (i5 u) (jv 1 u (B7 u) (jv 2 u (c7 a6n u) (jv 3 u (c7 Z3 u) (jh 4 u (fun _ h=>B5 G7 u u h.2) (jv 7 u (r_m u) (j1 5 u ?_)))))))
   obtain⟨dz,dA,dB⟩:=ob bc
   have bQ:=bd.f2
   refine lk c4E (a1J F bQ.e1 W X aa ab af dA) ?_
   rintro hB hC ⟨dC,dD,dE,be,rfl,ar,aL⟩
   have bf:=(bQ.c1 ar).t4
   refine P0 ⟨bf.hasK ar.le,bf.hasObj m3⟩ (jv 6 u (q9 underlying23 u aL) (jd (l5 ?_)))
   obtain⟨bR,dF,dG⟩:=ob dB
   refine l4 (IW w K (List.flatMap F5.gs [s7 g1 [V3 a b c,V3 d f i,V3 k l m,V3 o q s] 113]) be [(0,pt g1),(7,V6 bR)] [s7 g1 [V3 a b c,V3 d f i,V3 k l m,V3 o q s] 113] (i7 bR)) ?_ ?_
   ·refine j7 ?_
    obtain⟨hE,dH,dI⟩:=ob dF
    have dJ:=bf.f2.f3.f3.sb (sk (sk (sk (sd sz))))
    refine qF (fun (bS:Nat) (aM:Int)=>IW w K (List.flatMap F5.gs [s7 g1 [V3 a b c,V3 d f i,V3 k l m,V3 o q s] 113]) be [(0,pt g1),(4,pt J),(5,pt T),(7,V6 aM),(51,V3 dC dD dE),(52,V6 (dz.length:Int)),(53,V6 ((bS:Nat):Int))] [s7 g1 [V3 a b c,V3 d f i,V3 k l m,V3 o q s] 113,s7 J [V6 q1.Kind,sv q1.Field,V3 O R S,V6 q1.From,V6 q1.To,V3 G H I] 35,s7 T [V6 q2.Id,V3 x y A,V3 B C D] 44] (i7 aM)) dH ⟨be,u,dJ,kr,I5⟩ ?_ ?_
    ·rintro bS aM _ dK hF hi137 dL ⟨bT,rfl,au,ad,aN⟩
     refine sr (lv (u7 u u) (ns (C9 u (b8 (by omega)) (j3 (l5 (o4 (j7 (sr ?_))))))))
     obtain⟨dM,dN,dO⟩:=ob dL
     refine li underlying23 G7 (aL.mono ad) dN fun dP dQ hG dR dS=>?_
     obtain⟨rfl,bU⟩:=dR
     have dT:F1 _ dP dQ [sv dM]:=dS
     refine lv (y9 G7 u au (dT 0 _ u)) (av u (nr (mv u (fl a0B u W1 m1 au u ?_))))
     obtain⟨dU,dV,dW⟩:=ob dO
     refine li underlying23 G7 (aC.mono (ar.le.trans ad)) dV fun dX dY hH dZ ea=>?_
     obtain⟨rfl,eb⟩:=dZ
     have ec:F1 _ dX dY [sv dU]:=ea
     refine lv (y9 G7 u au (ec 0 _ u)) ?_
     obtain⟨hI,ed,ee⟩:=ob dW
     refine lk c6y (a7F F au.enter0 bU eb ed) ?_
     rintro hJ hK ⟨hL,rfl,aw,ef⟩
     have bg:=(au.c0 aw).t3
     refine av u (nr (mv u (fl a1w u E6 m1 bg u ?_)))
     obtain⟨hM,eg,eh⟩:=ob ee
     refine lk a5x (E2 F bg.enter0 ef I5 aK eg) ?_
     rintro hN hO ⟨ei,rfl,ax⟩
     have aF:=(bg.c0 ax).t3
     refine nq (D5 eh u (fun ej bh=>?_) (fun ej bh=>?_))
     ·refine j5 (mv u (mv u (fl Z3 u G7 m1 aF u (mv u (fl P6 u E6 m2 aF u ?_)))))
      obtain⟨hP,ek,el⟩:=ob bh
      refine lk c4B (a2x F aF.e1 (b7.mono (((ar.le.trans ad).trans aw.le).trans ax.le) W) (b7.mono (((ar.le.trans ad).trans aw.le).trans ax.le) X) (b7.mono (((ar.le.trans ad).trans aw.le).trans ax.le) aa) (b7.mono (((ar.le.trans ad).trans aw.le).trans ax.le) ab) af bU ac ek) ?_
      rintro hQ hR ⟨em,rfl,bV,hT⟩
      have en:=(aF.c1 bV).t3
      refine mv u (lv (I6 u u) (lv (U4 u u) ?_))
      obtain⟨hU,bW,eo⟩:=ob el
      refine lv (a4D u u bW) (lv (b9x u u) (av u (nb (qg (lv (B6 u u (C6 hi137 (b7.max aL))) (mv u (i8 ?_)))))))
      cases oi eo
      exact qd ⟨em,u,en,(((ad.trans aw.le).trans ax.le).trans bV.le),(b9q aN (a32 bW))⟩
     refine j3 (x8 (qg (lv (B6 u u (C6 hi137 (b7.max aL))) (mv u (i8 ?_)))))
     cases oi bh
     exact qd ⟨ei,u,aF,((ad.trans aw.le).trans ax.le),aN⟩
    rintro aM _ dK ep ⟨bT,rfl,au,ad,aN⟩
    subst ep
    refine sr (lv (u7 u u) (ns (C8 u (c6 (by omega)) (y4 (g8 (g8 (l6 ?_)))))))
    cases oi dI
    exact qd ⟨bT,u,au.s,ad,aN⟩
   rintro _ hV ⟨eq,rfl,es,hW,et⟩
   refine qr (mv u (av u (nq (j9 (i9 (c9 ?_))))))
   cases oi dG
   exact ey results70 ⟨eq,u,es,et⟩
  refine sr (lv (A9 u u) (av u (nq (D5 bc u (fun eu bi=>?_) (fun eu bi=>?_)))))
  ·refine o4 (o4 ?_)
   have bj:=U.drew
   refine j_0 (fun w'=>H0 K w'∧B0 J [V6 q1.Kind,sv q1.Field,V3 O R S,V6 q1.From,V6 q1.To,V3 G H I] w') 8 [] mixed ⟨bj.hasK kr,bj.hasObj m1⟩ (jv 0 u (i5 u) (jv 1 u (B7 u) (jv 2 u (c7 a6n u) (jv 3 u (c7 Z3 u) (jh 4 u (fun _ h=>B5 G7 u u h.2) (jv 7 u (r_m u) (j1 5 u ?_)))))))
   obtain⟨bX,ev,ew⟩:=ob bi
   have bY:=bj.f2
   refine lk c4E (a1J F bY.e1 W X aa ab af ev) ?_
   rintro hX hY ⟨bZ,ca,cb,bk,rfl,ay,bl⟩
   have bm:=(bY.c1 ay).t4
   refine P0 ⟨bm.hasK ay.le,bm.hasObj m3⟩ (jv 6 u (q9 underlying23 u bl) (jd (l5 ?_)))
   obtain⟨ex,eA,aO⟩:=ob ew
   refine l4 (IE ex w K (List.flatMap F5.gs [s7 g1 [V3 a b c,V3 d f i,V3 k l m,V3 o q s] 113]) bk [(0,pt g1)] [s7 g1 [V3 a b c,V3 d f i,V3 k l m,V3 o q s] 113]) ?_ ?_
   ·refine j7 ?_
    obtain⟨hZ,eB,cc⟩:=ob eA
    have eC:=bm.f2.f3.f3.sb (sk (sk (sk (sd sz))))
    refine qf (fun (bn:Nat) (cd:Unit)=>IV w K (List.flatMap F5.gs [s7 g1 [V3 a b c,V3 d f i,V3 k l m,V3 o q s] 113]) bk [(0,pt g1),(4,pt J),(5,pt T),(89,V3 bZ ca cb),(90,V6 (bX.length:Int)),(91,V6 ((bn:Nat):Int))] [s7 g1 [V3 a b c,V3 d f i,V3 k l m,V3 o q s] 113,s7 J [V6 q1.Kind,sv q1.Field,V3 O R S,V6 q1.From,V6 q1.To,V3 G H I] 35,s7 T [V6 q2.Id,V3 x y A,V3 B C D] 44]) eB ⟨bk,u,eC,kr⟩ ?_ ?_
    ·rintro bn cd _ eD ia hi232 eE eF ⟨bo,rfl,az,ag⟩
     refine sr (lv (u7 u u) (ns (C9 u (b8 (by omega)) (j3 (l5 (o4 (j7 (sr ?_))))))))
     obtain⟨ce,eG,eH⟩:=ob eE
     refine li underlying23 G7 (bl.mono ag) eG fun eI eJ ib eK eL=>?_
     obtain⟨rfl,cf⟩:=eK
     have eM:F1 _ eI eJ [sv ce]:=eL
     refine lv (y9 G7 u az (eM 0 _ u)) (av u (ns ?_))
     obtain⟨eN,eO,eP⟩:=ob eH
     refine l4 (IV w K (List.flatMap F5.gs [s7 g1 [V3 a b c,V3 d f i,V3 k l m,V3 o q s] 113]) bo [(0,pt g1),(4,pt J),(5,pt T),(89,V3 bZ ca cb),(90,V6 (bX.length:Int)),(91,V6 ((bn:Nat):Int)),(111,.bool eN)] [s7 g1 [V3 a b c,V3 d f i,V3 k l m,V3 o q s] 113,s7 J [V6 q1.Kind,sv q1.Field,V3 O R S,V6 q1.From,V6 q1.To,V3 G H I] 35,s7 T [V6 q2.Id,V3 x y A,V3 B C D] 44]) ?_ ?_
     ·refine j5 (fl a0B u W1 m1 az u ?_)
      obtain⟨eQ,eR,eS⟩:=ob eO
      refine li underlying23 G7 (aC.mono (ay.le.trans ag)) eR fun eT eU ic eV eW=>?_
      obtain⟨rfl,eX⟩:=eV
      have eY:F1 _ eT eU [sv eQ]:=eW
      refine lv (y9 G7 u az (eY 0 _ u)) (mv u ?_)
      obtain⟨ie,eZ,fb⟩:=ob eS
      refine lk c6W (b2v F az.enter0 eX cf eZ) ?_
      rintro ig ii ⟨fc,rfl,aA⟩
      have aG:=(az.c0 aA).t3
      refine mv u (bt fb (fun V bp=>?_) (fun V bp=>?_))
      ·refine lg V (i5 u) (lg V (c7 Z3 u) (lg V (w8 G7 u m1 aG u) (lg V (i5 u) (lg V (c7 P6 u) (lg V (w8 E6 u m2 aG u) ?_)))))
       obtain⟨ij,fd,fe⟩:=ob bp
       refine A3 (wg u u V) u (A2 (vs:=[pt g1,sv q1.Field,sv ce,V6 q2.Id]) c1x u) (a2w F aG.e1 (W.mono ((ay.le.trans ag).trans aA.le)) (X.mono ((ay.le.trans ag).trans aA.le)) (aa.mono ((ay.le.trans ag).trans aA.le)) (ab.mono ((ay.le.trans ag).trans aA.le)) af cf ac fd) ?_
       rintro ik il ⟨im,io,ip,fg,rfl,cg,fh⟩
       refine⟨_,u,?_⟩
       have fi:=(aG.c1 cg).t3
       refine lg V (q9 underlying46 u fh) (lg V (E7 u u) (lv (n9 u V u) (i8 ?_)))
       cases oi fe
       exact qd ⟨fg,u,fi,(aA.le.trans cg.le)⟩
      iterate 9 refine lu V ?_
      refine lv (L8 u V u) (i8 ?_)
      cases oi bp
      exact qd ⟨fc,u,aG,aA.le⟩
     rintro _ iq ⟨ch,rfl,cj,fj⟩
     refine l5 (D5 eP u (fun fk bq=>?_) (fun fk bq=>?_))
     ·refine sr (lv (u9 (v:=V6 100) u) (nq (j9 (i9 (c9 (c9 ?_))))))
      cases oi bq
      cases eF _ u
      refine i9 (c9 ?_)
      cases oi cc
      refine c9 (i9 (c9 ?_))
      cases oi aO
      exact ey results70 ⟨ch,u,cj.s,(by decide :i7 100)⟩
     refine j3 (x8 (qg (lv (B6 u u (C6 hi232 (b7.max bl))) (mv u (i8 ?_)))))
     cases oi bq
     exact qd ⟨_,u,ch,u,cj,(ag.trans fj)⟩
    rintro cd _ eD fm ⟨bo,rfl,az,ag⟩
    subst fm
    refine sr (lv (u7 u u) (ns (C8 u (c6 (by omega)) (y4 (g8 (g8 (l6 ?_)))))))
    cases oi cc
    exact qd ⟨_,bo,u,u,az.s,ag⟩
   rintro _ ir ⟨it,fn,rfl,rfl,fo,iu⟩
   have aO:=E9 aO
   refine qr (lv (N2 u) (nq (j9 (i9 (c9 ?_)))))
   cases oi aO
   exact ey results70 ⟨fn,u,fo,I5⟩
  refine sr (lv (A9 u u) (av u (nq (D5 bi u (fun fp br=>?_) (fun fp br=>?_)))))
  ·refine o4 (o4 (D4 mixed (by kernel_rfl) U (kh (D8 (ds:=[V6 q2.Id,V3 x y A,V3 B C D]) E8 u m0 u u) (kv (c7 Z3 u) (kh (z6 G7 u m1 u) ?_)))))
   obtain⟨iv,ck,fq⟩:=ob br
   refine kd c6Y (fun _ _ fr cl=>(a8r F) fr.enter0 ac (ak.mono cl) (am.mono cl) af ck) ?_
   obtain⟨_,_,_,⟨_,_,_,fs⟩,_⟩:=(a8r F) U.enter0 ac ak am af ck []
   refine kv (c7 a1w u) (kh (z6 E6 u m1 u) (kv (c7 a4L u) (kh (z6 E6 u m1 u) ?_)))
   obtain⟨iw,ft,fu⟩:=ob fq
   refine kc a5x (fun _ _ fv ix=>(E2 F) fv.enter0 fs aK aX ft) (B4 ?_)
   rintro iy ⟨cm,cn,iz⟩
   refine l5 (D5 fu u (fun fw bs=>?_) (fun fw bs=>?_))
   ·refine sr (lv (u9 (v:=V6 100) u) (nq (rr (i9 (c9 ?_)))))
    cases oi bs
    exact ey results70 ⟨cm,u,cn.s,(by decide :i7 100)⟩
   refine j3 (qr (lv (N2 u) (nq (j9 (i9 (c9 ?_))))))
   cases oi bs
   exact ey results70 ⟨cm,u,cn.s,I5⟩
  refine sr (lv (A9 u u) (av u (nq (D5 br u (fun fx bu=>?_) (fun fx bu=>?_)))))
  ·refine o4 ?_
   have aP:=U.drew
   refine wh1 (fun w'=>H0 K w'∧B0 J [V6 q1.Kind,sv q1.Field,V3 O R S,V6 q1.From,V6 q1.To,V3 G H I] w'∧B0 T [V6 q2.Id,V3 x y A,V3 B C D] w') (fun w'=>True) 11 [] mixed ⟨aP.hasK kr,aP.hasObj m1,aP.hasObj m0⟩ (fun _=>trivial) (gt (c7 a1w u) (gh (fun _ h=>B5 E6 u u h.2.1) (gt (i5 u) (gt (c7 W9 u) (gh (fun _ h=>B5 a5u u u h.2.1) ?_)))))
   obtain⟨an,fy,fz⟩:=ob bu
   refine gi underlying33 B1 aj fy fun fA fB iA fC fD=>?_
   obtain⟨cp,cq,cr,ct,cu,cv,rfl,fE,fF,fG,fH,fI,fJ⟩:=S9 fC
   have fK:F1 _ fA fB [V6 an.Kind,sv an.Field,V3 cp cq cr,V6 an.From,V6 an.To,V3 ct cu cv]:=fD
   refine gh (fun _ h=>a67 (cs:=[V6 an.Kind,sv an.Field,V3 cp cq cr,V6 an.From,V6 an.To,V3 ct cu cv]) B1 u fK u h.1) (gh (fun _ h=>A0 (ds:=[V6 q2.Id,V3 x y A,V3 B C D]) E8 u u u h.2.2) (gn ?_))
   obtain⟨iB,fL,fM⟩:=ob fz
   have cw:=aP.f2
   refine lk b9V (ih cw.e1 W X aa ab fE fF fG fH fI fJ ac ak am hD fL) ?_
   rintro iC iD ⟨fN,rfl,cx,iE⟩
   have aQ:=(cw.c1 cx).t3
   refine i8 (qh ⟨aQ.hasK cx.le,aQ.hasObj m2,aQ.hasObj m1⟩ (fun _=>trivial) (gt (U4 u u) (gt (u9 u) (gd' (l5 (j9 (i9 (c9 ?_))))))))
   cases oi fM
   exact ey results70 ⟨fN,u,aQ.s,(u0 _)⟩
  refine sr (lv (A9 u u) (av u (nq (D5 bu u (fun fO bv=>?_) (fun fO bv=>?_)))))
  ·refine o4 (o4 ?_)
   have aR:=U.drew
   refine wh1 (fun w'=>H0 K w'∧B0 J [V6 q1.Kind,sv q1.Field,V3 O R S,V6 q1.From,V6 q1.To,V3 G H I] w'∧B0 T [V6 q2.Id,V3 x y A,V3 B C D] w') (fun w'=>True) 8 [] mixed ⟨aR.hasK kr,aR.hasObj m1,aR.hasObj m0⟩ (fun _=>trivial) (gt (i5 u) (gt (c7 W9 u) (gh (fun _ h=>B5 a5u u u h.2.1) ?_)))
   obtain⟨ao,fP,fQ⟩:=ob bv
   refine gi underlying33 B1 aj fP fun fR fS iF fT fU=>?_
   obtain⟨cy,cz,cA,cB,cC,cD,rfl,fV,fW,fX,fY,fZ,ga⟩:=S9 fT
   have gb:F1 _ fR fS [V6 ao.Kind,sv ao.Field,V3 cy cz cA,V6 ao.From,V6 ao.To,V3 cB cC cD]:=fU
   refine gh (fun _ h=>a67 (cs:=[V6 ao.Kind,sv ao.Field,V3 cy cz cA,V6 ao.From,V6 ao.To,V3 cB cC cD]) B1 u gb u h.1) (gh (fun _ h=>A0 (ds:=[V6 q2.Id,V3 x y A,V3 B C D]) E8 u u u h.2.2) (gn ?_))
   obtain⟨iG,gc,gd⟩:=ob fQ
   have cE:=aR.f2
   refine lk b9V (ih cE.e1 W X aa ab fV fW fX fY fZ ga ac ak am hD gc) ?_
   rintro iH iI ⟨cF,rfl,ah,iJ⟩
   have aH:=(cE.c1 ah).t3
   refine i8 (qh ⟨aH.hasK ah.le,aH.hasObj m2,aH.hasObj m1⟩ (fun _=>trivial) (gt (E7 u u) (gd' (l5 (D5 gd u (fun ge bz=>?_) (fun ge bz=>?_))))))
   ·refine sr (lv (N2 u) (nq (rr (i9 (c9 ?_)))))
    cases oi bz
    exact ey results70 ⟨cF,u,aH.s,I5⟩
   refine j3 (qs ?_)
   have aI:=aH.drew
   refine wh1 (fun w'=>H0 cF w'∧B0 J [V6 q1.Kind,sv q1.Field,V3 O R S,V6 q1.From,V6 q1.To,V3 G H I] w'∧B0 T [V6 q2.Id,V3 x y A,V3 B C D] w') (fun w'=>True) 8 [] mixed ⟨aI.hasK kr,aI.hasObj m2,aI.hasObj m1⟩ (fun _=>trivial) (gt (i5 u) (gt (c7 W9 u) (gh (fun _ h=>B5 a5u u u h.2.1) ?_)))
   obtain⟨ap,gg,gj⟩:=ob bz
   refine gi underlying33 B1 (aj.mono ah.le) gg fun gk gl iK gm go=>?_
   obtain⟨cG,cH,cI,cJ,cK,cL,rfl,gp,gq,gr,gv,gw,gx⟩:=S9 gm
   have gy:F1 _ gk gl [V6 ap.Kind,sv ap.Field,V3 cG cH cI,V6 ap.From,V6 ap.To,V3 cJ cK cL]:=go
   refine gh (fun _ h=>a67 (cs:=[V6 ap.Kind,sv ap.Field,V3 cG cH cI,V6 ap.From,V6 ap.To,V3 cJ cK cL]) B1 u gy u h.1) (gh (fun _ h=>A0 (ds:=[V6 q2.Id,V3 x y A,V3 B C D]) E8 u u u h.2.2) (gn ?_))
   obtain⟨iL,gz,gA⟩:=ob gj
   refine lk b9V (ih aI.e1 (W.mono ah.le) (X.mono ah.le) (aa.mono ah.le) (ab.mono ah.le) gp gq gr gv gw gx ac (ak.mono ah.le) (am.mono ah.le) hD gz) ?_
   rintro iM iN ⟨gB,rfl,cM,gC⟩
   have aS:=(aI.c1 cM).t3
   refine i8 (qh ⟨aS.hasK cM.le,aS.hasObj m2,aS.hasObj m1⟩ (fun _=>trivial) (gt (u9 u) (gd' (l5 (j9 (i9 (c9 ?_)))))))
   cases oi gA
   exact ey results70 ⟨gB,u,aS.s,gC⟩
  refine j3 (x8 (qr (lv (N2 u) (O7 (fl W9 u a5u m1 U u (lv (q9 underlying33 u aj) (lv (r_m u) (nq ?_))))))))
  obtain⟨gD,gE,aT⟩:=ob bv
  refine l4 (fun E' w'=>∃aU aV,gD= .inl aU∧E'=[(0,pt g1),(13,V6 aU)]∧SH w K (List.flatMap F5.gs [s7 g1 [V3 a b c,V3 d f i,V3 k l m,V3 o q s] 113]) w' aV [s7 g1 [V3 a b c,V3 d f i,V3 k l m,V3 o q s] 113]∧M0 K aV∧i7 aU) ?_ ?_
  ·refine j7 ?_
   obtain⟨iO,gF,cN⟩:=ob gE
   refine qf (fun (bA:Nat) (aJ:Int)=>IW w K (List.flatMap F5.gs [s7 g1 [V3 a b c,V3 d f i,V3 k l m,V3 o q s] 113]) K [(0,pt g1),(4,pt J),(5,pt T),(13,V6 aJ),(154,V3 G H I),(155,V6 (q1.Kids.length:Int)),(156,V6 ((bA:Nat):Int))] [s7 g1 [V3 a b c,V3 d f i,V3 k l m,V3 o q s] 113,s7 J [V6 q1.Kind,sv q1.Field,V3 O R S,V6 q1.From,V6 q1.To,V3 G H I] 35,s7 T [V6 q2.Id,V3 x y A,V3 B C D] 44] (i7 aJ)) gF ⟨K,u,U.f1.f2,kr,I5⟩ ?_ ?_
   ·rintro bA aJ _ gG iP hi446 gH gI ⟨cO,rfl,aW,ae,cP⟩
    refine sr (lv (u7 u u) (ns (C9 u (b8 (by omega)) (j3 (l5 (o4 (j7 (sr ?_))))))))
    obtain⟨Y,gJ,gK⟩:=ob gH
    refine li underlying33 B1 (aj.mono ae) gJ fun gL gM iQ gN gO=>?_
    obtain⟨bB,bC,bD,bE,bF,bG,rfl,gP,gQ,gR,gS,gT,gU⟩:=S9 gN
    have gV:F1 _ gL gM [V6 Y.Kind,sv Y.Field,V3 bB bC bD,V6 Y.From,V6 Y.To,V3 bE bF bG]:=gO
    refine lv (F3 B1 u aW gV u) (al B1 aW fun gW iR gX=>?_)
    have gY:SH _ _ _ _ _ [s7 gW [V6 0,sv [],V3 none 0 0,V6 0,V6 0,V3 none 0 0] 35,_,_,_]:=gX
    refine lw [V6 Y.Kind,sv Y.Field,V3 bB bC bD,V6 Y.From,V6 Y.To,V3 bE bF bG] B1 gY fun iS bH=>(nr (mv u (lv (j6 (ds:=[V6 Y.Kind,sv Y.Field,V3 bB bC bD,V6 Y.From,V6 Y.To,V3 bE bF bG]) B1 u m0 bH u u) (lv (j6 (ds:=[V6 q2.Id,V3 x y A,V3 B C D]) E8 u m3 bH u u) ?_))))
    obtain⟨gZ,hb,hc⟩:=ob gK
    have cQ:=bH.f1
    refine lk b9V (ih cQ.e1 (W.mono ae) (X.mono ae) (aa.mono ae) (ab.mono ae) gP gQ gR gS gT gU ac (ak.mono ae) (am.mono ae) hD hb) ?_
    rintro iT iU ⟨bI,rfl,cR,iV⟩
    have bJ:=(cQ.c1 cR).t4
    refine av u (ns (o4 ?_))
    obtain⟨hd,he,hf⟩:=ob hc
    refine l4 (IV w K (List.flatMap F5.gs [s7 g1 [V3 a b c,V3 d f i,V3 k l m,V3 o q s] 113]) bI [(0,pt g1),(4,pt J),(5,pt T),(13,V6 aJ),(16,V6 gZ),(154,V3 G H I),(155,V6 (q1.Kids.length:Int)),(156,V6 ((bA:Nat):Int)),(170,.bool hd)] [s7 g1 [V3 a b c,V3 d f i,V3 k l m,V3 o q s] 113,s7 J [V6 q1.Kind,sv q1.Field,V3 O R S,V6 q1.From,V6 q1.To,V3 G H I] 35,s7 T [V6 q2.Id,V3 x y A,V3 B C D] 44]) ?_ ?_
    ·refine j5 (mv u (lv (A9 u u) (mv u (bt he (fun ai bK=>?_) (fun ai bK=>?_)))))
     ·refine lg ai (c7 a6x u) (lg ai (w8 E6 u m2 bJ u) (lg ai (A9 u u) (lv (n9 u ai u) (i8 ?_))))
      cases oi bK
      exact qd ⟨bI,u,bJ.s,kr⟩
     refine lu ai (lu ai (lu ai (lv (L8 u ai u) (i8 ?_))))
     cases oi bK
     exact qd ⟨bI,u,bJ.s,kr⟩
    rintro _ iW ⟨cS,rfl,cT,hg⟩
    refine l5 (D5 hf u (fun hh bL=>?_) (fun hh bL=>?_))
    ·refine sr (lv (N2 u) (nq (rr (i9 (c9 (c9 ?_))))))
     cases oi bL
     cases gI _ u
     refine i9 (c9 ?_)
     cases oi cN
     refine c9 ?_
     cases oi aT
     exact ey results70 ⟨cS,u,cT.s,I5⟩
    refine j3 (l5 (j5 (mv u (mv u (lv (y7 u u) (av u (nb (qg (lv (B6 u u (C6 hi446 (b7.max aj))) ?_)))))))))
    refine mv u (i8 ?_)
    cases oi bL
    exact qd ⟨_,u,cS,u,cT,((ae.trans cR.le).trans hg),(u0 _)⟩
   rintro aJ _ gG hi ⟨cO,rfl,aW,ae,cP⟩
   subst hi
   refine sr (lv (u7 u u) (ns (C8 u (c6 (by omega)) (y4 (g8 (g8 (l6 ?_)))))))
   cases oi cN
   exact qd ⟨_,cO,u,u,aW.s,ae,cP⟩
  rintro _ iX ⟨aU,aV,rfl,rfl,hj,iY,hk⟩
  have aT:=E9 aT
  refine qr (mv u (av u (nq (j9 ?_))))
  cases oi aT
  exact ey results70 ⟨aV,u,hj,hk⟩
end Go.Proofs.YtnloenhmkdpgeaaGreatDoor
