/-
 Walks of the functions. Printed by gen.py.
-/
import Derived.Test.YtnloenhmkdpgeaaGreatDoorWalkA1
import Derived.Test.YtnloenhmkdpgeaaGreatDoorWalkA2
import Derived.Test.YtnloenhmkdpgeaaGreatDoorWalkA3
set_option linter.unusedVariables false
set_option linter.unusedSectionVars false
set_option maxRecDepth 100000
namespace Go.Proofs.YtnloenhmkdpgeaaGreatDoor
set_option maxHeartbeats 4000000
open Go Go.Fk Go.RowKit Tryz
variable (F:Nat){w:World}{K:F9}{Z:List Nat}{g1 g2 g3:Nat}{A B C D G H I J O R S T:Option Addr}{a b c d f i k l m n o p q s v x y aa ab ac ad ae af ag:Nat}
variable [dr:Dr]

theorem b2R {q0:u6}{q1:List A1}{q2:r4}{r:(List r4)}(hS:SH w K [] w K [])(aC:b7 D9 K A a b q0.Stops)(aD:b7 L0 K B c d q0.Syns)(ak:b7 F6 K C f i q1)(aE:q2.length≤maxLen)(hm:a2X F q0 q1 q2=some r):
  Calls prog 161 #[.agg #[V3 A a b,V3 B c d],V3 C f i,sv q2] w fun e w'=>∃a_1 n_2 c_3 K',e= .returned (V3 a_1 n_2 c_3)∧SH w K [] w' K' [tail (V3 a_1 n_2 c_3) 9 1]∧b7 D9 K' a_1 n_2 c_3 r:=by
 rw [a2X] at hm
 refine ci func161 u ntmps161 (sr (bx u hS fun k bS aF=>?_))
 have aG:SH _ _ _ _ _ [s7 k [V3 A a b,V3 B c d] 26]:=aF
 refine lv (r_n u) (nr (b0 D9 underlying23 G7 aG fun aH bT ae X aI aJ=>(av u (O7 (lv (N2 u) (nq ?_))))))
 obtain⟨aK,aL,aM⟩:=ob hm
 refine l4 (fun E' w'=>∃D G H I,E'=[(7,V3 D G H)]∧SH w K [] w' I [tail (V3 D G H) 9 1]∧M0 ae I∧b7 D9 I D G H aK) ?_ ?_
 ·refine j7 ?_
  obtain⟨bU,aN,aO⟩:=ob aL
  refine qw (fun (m:(List r4)×Int) E' w'=>∃o q s x,E'=[(1,V3 C f i),(2,sv q2),(3,pt k),(7,V3 o q s),(8,V6 m.2)]∧SH w K [] w' x [s7 k [V3 A a b,V3 B c d] 26,tail (V3 o q s) 9 1]∧M0 ae x∧b7 D9 x o q s m.1∧i7 m.2) aN ⟨aH,0,0,ae,u,aJ.f1,kr,aI,I5⟩ ?_
  rintro m _ bV bW aP aQ ⟨o,q,s,x,rfl,al,y,am,bX⟩
  refine o4 (sr (mv u (mv u (lv (q9 underlying27 u (ak.mono (X.trans y))) (lv (u7 u u) (nq (D5 aP u (fun aR af=>?_) (fun aR af=>?_))))))))
  ·refine j3 (qs (j7 (o4 ?_)))
   have Y:=al.drew
   refine wh1 (fun w'=>H0 x w'∧B0 k [V3 A a b,V3 B c d] w') (fun w'=>True) 9 [] mixed ⟨Y.hasK kr,Y.hasObj m0⟩ (fun _=>trivial) (gh (fun _ h=>A0 (ds:=[V3 A a b,V3 B c d]) B9 u u u h.2) (gt (i5 u) (gt (i5 u) ?_)))
   obtain⟨an,aS,aT⟩:=ob af
   refine gi underlying27 E8 (ak.mono (X.trans y)) aS fun aU aV bY aW aX=>?_
   obtain⟨ao,ap,aq,ar,au,aw,rfl,aY,aZ,ba⟩:=aW
   have bb:F1 _ aU aV [V6 an.Id,V3 ao ap aq,V3 ar au aw]:=aX
   refine gh (fun _ h=>a67 (cs:=[V6 an.Id,V3 ao ap aq,V3 ar au aw]) E8 u bb u h.1) (gt (i5 u) (gn ?_))
   obtain⟨bZ,bc,bd⟩:=ob aT
   refine lk c31 (a7N F Y.enter0 aY aZ ba aE bc) ?_
   rintro ca cb ⟨cc,rfl,l,be⟩
   have aa:=(Y.c0 l).t2
   refine i8 (qh ⟨aa.hasK l.le,aa.hasObj m0⟩ (fun _=>trivial) (gn ?_))
   obtain⟨cd,bf,bg⟩:=ob bd
   refine lk b6s (a2j F aa.enter0 (aC.mono ((X.trans y).trans l.le)) (aD.mono ((X.trans y).trans l.le)) be bf) ?_
   rintro ce cf ⟨bh,bi,bj,ag,rfl,ab,ax⟩
   have ah:=(aa.c0 ab).t3
   refine i8 (qh ⟨ah.hasK (l.le.trans ab.le),ah.hasObj m1⟩ (fun _=>trivial) (gt (u9 u) (gd' (qr (lv (N2 u) (nq ?_))))))
   obtain⟨bk,bl,bm⟩:=ob bg
   refine l4 (fun E' w'=>∃J O R S,E'=[(1,V3 C f i),(2,sv q2),(3,pt k),(7,V3 J O R),(8,V6 m.2)]∧SH w K [] w' S [s7 k [V3 A a b,V3 B c d] 26,tail (V3 J O R) 9 1]∧M0 ag S∧b7 D9 S J O R bk) ?_ ?_
   ·refine j7 ?_
    obtain⟨cg,bn,bo⟩:=ob bl
    have bp:=ah.sb (sd (sk (sk sz)))
    refine qw (fun (ac:(List r4)×Int) E' w'=>∃T U V W,E'=[(1,V3 C f i),(2,sv q2),(3,pt k),(7,V3 T U V),(8,V6 m.2),(9,V3 bh bi bj),(10,V6 ac.2)]∧SH w K [] w' W [s7 k [V3 A a b,V3 B c d] 26,tail (V3 T U V) 9 1]∧M0 ag W∧b7 D9 W T U V ac.1∧i7 ac.2) bn ⟨o,q,s,ag,u,bp,kr,(am.mono (l.le.trans ab.le)),I5⟩ ?_
    rintro ac _ ch cj bq br ⟨T,U,V,W,rfl,ai,ad,ay,ck⟩
    refine o4 (sr (mv u (mv u (lv (q9 underlying104 u (ax.mono ad)) (lv (u7 u u) (nq (D5 bq u (fun bs aj=>?_) (fun bs aj=>?_))))))))
    ·refine j3 (qs (j7 (j5 (mv u (mv u (mv u ?_))))))
     obtain⟨az,bu,bv⟩:=ob aj
     refine li underlying104 M3 (ax.mono ad) bu fun bz bA cl bB bC=>?_
     obtain⟨rfl,bD,cm⟩:=bB
     have bE:F1 _ bz bA [sv az.Text,V6 az.At]:=bC
     refine fa a3Z u (lv (y9 G7 u ai (bE 0 _ u)) ?_)
     obtain⟨cn,bF,bG⟩:=ob bv
     have aA:=ai.f1
     refine lk c30 (a9F F aA.e1 ay bD bF) ?_
     rintro cp cq ⟨bH,bI,bJ,bK,rfl,aB,bL⟩
     have bM:=(aA.c1 aB).t2
     refine av u (nb (l5 (j5 (mv u (lv (y7 u u) (av u (i8 ?_)))))))
     cases oi bG
     exact qd ⟨_,u,bH,bI,bJ,bK,u,bM.f1,(ad.trans aB.le),bL,(u0 _)⟩
    refine y4 (g8 (g8 ?_))
    cases oi aj
    cases br _ u
    refine l6 ?_
    cases oi bo
    exact qd ⟨T,U,V,W,u,ai,ad,ay⟩
   rintro _ cr ⟨J,O,R,S,rfl,bN,bO,bP⟩
   refine x8 (l5 (j5 (mv u (lv (y7 u u) (av u (i8 ?_))))))
   cases oi bm
   exact qd ⟨_,u,J,O,R,S,u,bN,(((y.trans l.le).trans ab.le).trans bO),bP,(u0 _)⟩
  refine y4 (g8 (g8 ?_))
  cases oi af
  cases aQ _ u
  refine l6 ?_
  cases oi aO
  exact qd ⟨o,q,s,x,u,al.s,y,am⟩
 rintro _ ct ⟨D,G,H,I,rfl,bQ,cu,bR⟩
 refine qr (mv u (av u (nq (j9 ?_))))
 cases oi aM
 exact ey results161 ⟨D,G,H,I,u,bQ,bR⟩

theorem b3X {q0:u6}{q1:A1}{q2:r4}{q3:r4}{r:(List Int)}(hS:SH w K [] w K [])(ai:b7 D9 K A a b q0.Stops)(aj:b7 L0 K B c d q0.Syns)(ak:i7 q1.Id)(al:b7 K5 K C f i q1.Fields)(am:b7 N0 K D k l q1.Nums)(an:q2.length≤maxLen)(bu:q3.length≤maxLen)(hm:a3Q F q0 q1 q2 q3=some r):
  Calls prog 200 #[.agg #[V3 A a b,V3 B c d],.agg #[V6 q1.Id,V3 C f i,V3 D k l],sv q2,sv q3] w fun e w'=>∃a_1 n_2 c_3 K',e= .returned (V3 a_1 n_2 c_3)∧SH w K [] w' K' [tail (V3 a_1 n_2 c_3) 3 1]∧b7 D6 K' a_1 n_2 c_3 r:=by
 rw [a3Q] at hm
 refine ci func200 u ntmps200 (sr (bx u hS fun ae bv ao=>?_))
 have ap:SH _ _ _ _ _ [s7 ae [V3 A a b,V3 B c d] 26]:=ao
 refine bx u ap fun af bz aq=>?_
 have ar:SH _ _ _ _ _ [s7 af [V6 q1.Id,V3 C f i,V3 D k l] 44,_]:=aq
 refine lv (r_n u) (nr (b0 D6 underlying46 E6 ar fun au bA aw U ax ay=>(av u (ns ?_))))
 have G:=ay.drew
 refine wh1 (fun w'=>H0 aw w'∧B0 ae [V3 A a b,V3 B c d] w'∧B0 af [V6 q1.Id,V3 C f i,V3 D k l] w') (fun w'=>True) 6 [] mixed ⟨G.hasK kr,G.hasObj m2,G.hasObj m1⟩ (fun _=>trivial) (gh (fun _ h=>A0 (ds:=[V3 A a b,V3 B c d]) B9 u u u h.2.1) (gh (fun _ h=>A0 (ds:=[V6 q1.Id,V3 C f i,V3 D k l]) E8 u u u h.2.2) (gt (i5 u) (gn ?_))))
 obtain⟨bB,az,aA⟩:=ob hm
 refine lk c31 (a7N F G.enter0 ak (al.mono U) (am.mono U) an az) ?_
 rintro bC bD ⟨bE,rfl,m,aB⟩
 have H:=(G.c0 m).t3
 refine i8 (qh ⟨H.hasK m.le,H.hasObj m2,H.hasObj m1⟩ (fun _=>trivial) (gn ?_))
 obtain⟨bF,aC,aD⟩:=ob aA
 refine lk b6s (a2j F H.enter0 (ai.mono (U.trans m.le)) (aj.mono (U.trans m.le)) aB aC) ?_
 rintro bG bH ⟨aE,aF,aG,X,rfl,Y,aa⟩
 have V:=(H.c0 Y).t4
 refine i8 (qh ⟨V.hasK (m.le.trans Y.le),V.hasObj m3,V.hasObj m2⟩ (fun _=>trivial) (gt (u9 u) (gd' (qs (sr (lv (N2 u) (nq ?_)))))))
 obtain⟨aH,aI,aJ⟩:=ob aD
 refine l4 (fun E' w'=>∃I J O R,E'=[(9,V3 I J O)]∧SH w K [] w' R [tail (V3 I J O) 3 1]∧M0 X R∧b7 D6 R I J O aH) ?_ ?_
 ·refine j7 ?_
  obtain⟨bI,aK,aL⟩:=ob aI
  have aM:=V.sb (sd (sk (sd (sd sz))))
  refine qw (fun (W:(List Int)×Int) E' w'=>∃o q s x,E'=[(3,sv q3),(9,V3 o q s),(10,V3 aE aF aG),(11,V6 W.2)]∧SH w K [] w' x [tail (V3 o q s) 3 1]∧M0 X x∧b7 D6 x o q s W.1∧i7 W.2) aK ⟨au,0,0,X,u,aM,kr,(ax.mono (m.le.trans Y.le)),I5⟩ ?_
  rintro W _ bJ bK aN aO ⟨o,q,s,x,rfl,S,y,ab,bL⟩
  refine o4 (sr (mv u (mv u (lv (q9 underlying104 u (aa.mono y)) (lv (u7 u u) (nq (D5 aN u (fun aP ac=>?_) (fun aP ac=>?_))))))))
  ·refine j3 (qs (j7 (sr (mv u (mv u ?_)))))
   obtain⟨ag,aQ,aR⟩:=ob ac
   refine li underlying104 M3 (aa.mono y) aQ fun aS aT bM aU aV=>?_
   obtain⟨rfl,bN,bO⟩:=aU
   have aW:F1 _ aS aT [sv ag.Text,V6 ag.At]:=aV
   refine fa a3Z u (lv (y9 G7 u S (aW 0 _ u)) (mv u (lv (J8 u u) (nq (D5 aR u (fun aX ad=>?_) (fun aX ad=>?_))))))
   ·refine j5 (mv u (mv u (mv u ?_)))
    obtain⟨T,aY,aZ⟩:=ob ad
    refine li underlying104 M3 (aa.mono y) aY fun ba bb bP bc bd=>?_
    obtain⟨rfl,bQ,be⟩:=bc
    have bf:F1 _ ba bb [sv T.Text,V6 T.At]:=bd
    refine fa a30 u (lv (y9 E6 u S (bf 1 _ u)) (lb D6 (V6 T.At) [V6 T.At] T.At underlying46 E6 ⟨u,be⟩ S fun bR bS bT ah bg bh=>?_))
    obtain⟨bU,bi,bj⟩:=ob aZ
    refine lp underlying46 E6 (ab.mono ah) bg bi bh.f1 fun bk bl bm bV bn bo bp bq=>(av u (nb (l5 (j5 (mv u (lv (y7 u u) (av u (i8 ?_))))))))
    cases oi bj
    exact qd ⟨_,u,bk,bl,bm,bn,u,bq.s,((y.trans ah).trans bo),bp,(u0 _)⟩
   refine j3 (x8 (l5 (j5 (mv u (lv (y7 u u) (av u (i8 ?_)))))))
   cases oi ad
   exact qd ⟨_,u,o,q,s,x,u,S,y,ab,(u0 _)⟩
  refine y4 (g8 (g8 ?_))
  cases oi ac
  cases aO _ u
  refine l6 ?_
  cases oi aL
  exact qd ⟨o,q,s,x,u,S,y,ab⟩
 rintro _ bW ⟨I,J,O,R,rfl,br,bX,bs⟩
 refine qr (mv u (av u (nq (j9 ?_))))
 cases oi aJ
 exact ey results200 ⟨I,J,O,R,u,br,bs⟩

theorem b2P {q0:u6}{q1:List A1}{q2:r4}{q3:r4}{r:C0}(hS:SH w K [] w K [])(aG:b7 D9 K A a b q0.Stops)(aH:b7 L0 K B c d q0.Syns)(aa:b7 F6 K C f i q1)(ao:q2.length≤maxLen)(ap:q3.length≤maxLen)(hm:a2V F q0 q1 q2 q3=some r):
  Calls prog 162 #[.agg #[V3 A a b,V3 B c d],V3 C f i,sv q2,sv q3] w fun e w'=>∃a_3 n_4 c_5 K',e= .returned (.agg #[sv r.Field,sv r.Term,V3 a_3 n_4 c_5])∧SH w K [] w' K' [tail (V3 a_3 n_4 c_5) 48 2]∧r.Field.length≤maxLen∧r.Term.length≤maxLen∧b7 S2 K' a_3 n_4 c_5 r.Posts:=by
 rw [a2V] at hm
 refine ci func162 u ntmps162 (sr (bx u hS fun T bL aI=>?_))
 have aJ:SH _ _ _ _ _ [s7 T [V3 A a b,V3 B c d] 26]:=aI
 refine al P2 aJ fun J bM aK=>?_
 have aL:SH _ _ _ _ _ [s7 J [sv [],sv [],V3 none 0 0] 99,_]:=aK
 refine nr (mv u (mv u (lv (C3 (cs:=#[sv q2,sv q3,V3 none 0 0]) c6N P2 u (by kernel_rfl)) (al P2 aL fun H bN aM=>?_))))
 have aN:SH _ _ _ _ _ [s7 H [sv [],sv [],V3 none 0 0] 99,_,_]:=aM
 refine lw [sv q2,sv q3,V3 none 0 0] P2 aN fun bO aO=>(O7 (lv (N2 u) (nq ?_)))
 obtain⟨l,aP,aQ⟩:=ob hm
 refine l4 (fun E' w'=>∃o q s O,E'=[(8,pt J),(9,pt H)]∧SH w K [] w' O [s7 J [sv [],sv [],V3 none 0 0] 99,s7 H [sv l.Field,sv l.Term,V3 o q s] 99,tail (V3 o q s) 48 2]∧M0 K O∧l.Field.length≤maxLen∧l.Term.length≤maxLen∧b7 S2 O o q s l.Posts) ?_ ?_
 ·refine j7 ?_
  obtain⟨bP,aR,aS⟩:=ob aP
  have aT:=aO.nil 48 2
  refine qw (fun (k:Int×C0) E' w'=>∃x y D I,E'=[(1,V3 C f i),(2,sv q2),(3,sv q3),(4,pt T),(8,pt J),(9,pt H),(10,V6 k.1)]∧SH w K [] w' I [s7 T [V3 A a b,V3 B c d] 26,s7 J [sv [],sv [],V3 none 0 0] 99,s7 H [sv k.2.Field,sv k.2.Term,V3 x y D] 99,tail (V3 x y D) 48 2]∧M0 K I∧i7 k.1∧k.2.Field.length≤maxLen∧k.2.Term.length≤maxLen∧b7 S2 I x y D k.2.Posts) aR ⟨none,0,0,K,u,aT.f1.f2.f3,kr,I5,ao,ap,(b7.nil _ _)⟩ ?_
  rintro k _ bQ bR aU aV ⟨x,y,D,I,rfl,aq,m,bS,ab,ac,ad⟩
  refine o4 (sr (mv u (mv u (lv (q9 underlying27 u (aa.mono m)) (lv (u7 u u) (nq (D5 aU u (fun aW ae=>?_) (fun aW ae=>?_))))))))
  ·refine j3 (qs (j7 (o4 ?_)))
   have U:=aq.drew
   refine wh1 (fun w'=>H0 I w'∧B0 T [V3 A a b,V3 B c d] w') (fun w'=>True) 9 [] mixed ⟨U.hasK kr,U.hasObj m0⟩ (fun _=>trivial) (gh (fun _ h=>A0 (ds:=[V3 A a b,V3 B c d]) B9 u u u h.2) (gt (i5 u) (gt (i5 u) ?_)))
   obtain⟨ar,aX,aY⟩:=ob ae
   refine gi underlying27 E8 (aa.mono m) aX fun aZ ba bT bb bc=>?_
   obtain⟨au,aw,ax,ay,az,aA,rfl,bd,be,bf⟩:=bb
   have bg:F1 _ aZ ba [V6 ar.Id,V3 au aw ax,V3 ay az aA]:=bc
   refine gh (fun _ h=>a67 (cs:=[V6 ar.Id,V3 au aw ax,V3 ay az aA]) E8 u bg u h.1) (gt (i5 u) (gt (i5 u) (gn ?_)))
   obtain⟨bh,bi,bj⟩:=ob aY
   refine lk c6h (b3X F U.enter0 (aG.mono m) (aH.mono m) bd be bf ao ap bi) ?_
   rintro bU bV ⟨V,W,X,aB,rfl,G,aC⟩
   have Y:=(U.c0 G).t5
   refine i8 (qh ⟨Y.hasK G.le,Y.hasObj m1⟩ (fun _=>trivial) (gt (u9 u) (gd' (qr (mv u (lv (q9 underlying46 u aC) (lv (E7 u u) (nq (D5 bj u (fun bk af=>?_) (fun bk af=>?_))))))))))
   ·have ag:=Y.drew
    refine wh1 (fun w'=>H0 aB w') (fun w'=>B0 H [sv k.2.Field,sv k.2.Term,V3 x y D] w') 12 [(1,10),(1,11),(1,12),(10,11),(10,12),(11,12)] mixed (ag.hasK kr) (fun _=>ag.hasObj (.tail _ (.tail _ (.tail _ (.head _))))) (gt (c7 Y0 u) (gf (fun _ h=>B5 a5B u u h) (gt (i5 u) (gt (i5 u) ?_))))
    obtain⟨R,bl,bm⟩:=ob af
    refine gi underlying27 E8 (aa.mono (m.trans G.le)) bl fun bn bo bW bp bq=>?_
    obtain⟨br,bs,bu,bv,bz,bA,rfl,bB,bX,bY⟩:=bp
    have bC:F1 _ bn bo [V6 R.Id,V3 br bs bu,V3 bv bz bA]:=bq
    refine gt (c7 P6 u) (gh (fun _ h=>a0Y E6 u (bC 0 _ u) h) (gt (i5 u) (gt (C3 (cs:=#[V6 R.Id,V3 V W X]) c5i a02 u (by kernel_rfl)) (gn (lb S2 (.agg #[V6 R.Id,V3 V W X]) [V6 R.Id,V3 V W X] (F7.mk R.Id bh) underlying37 a02 ⟨V,W,X,u,bB,aC⟩ ag fun bZ ca cb S bD ah=>(i8 (qh (ah.hasK S) (fun _=>ah.hasObj (.tail _ (.tail _ (.tail _ (.tail _ (.head _)))))) (gn ?_))))))))
    obtain⟨cc,bE,bF⟩:=ob bm
    refine lp underlying37 a02 (ad.mono (G.le.trans S)) bD bE ah.f5 fun ai aj ak cd bG am bH an=>(i8 (qh (an.hasK (S.trans am)) (fun _=>an.hasObj (.tail _ (.tail _ (.tail _ (.tail _ (.tail _ (.head _))))))) (gt (c7 Y0 u) (gn (ls [sv k.2.Field,sv k.2.Term,V3 ai aj ak] (V3 ai aj ak) a5B an.f5 fun ce aD=>(i8 (qh (aD.hasK (S.trans am)) (fun h=>by cases h) (gd' (x8 (l5 (j5 ?_)))))))))))
    refine mv u (lv (y7 u u) (av u (i8 ?_)))
    cases oi bF
    exact qd ⟨_,u,ai,aj,ak,bG,u,aD.f1.f1.f5.f5.s,(((m.trans G.le).trans S).trans am),(u0 _),ab,ac,bH⟩
   refine j3 (x8 (l5 (j5 (mv u (lv (y7 u u) (av u (i8 ?_)))))))
   cases oi af
   exact qd ⟨_,u,x,y,D,aB,u,Y.s,(m.trans G.le),(u0 _),ab,ac,(ad.mono G.le)⟩
  refine y4 (g8 (g8 ?_))
  cases oi ae
  cases aV _ u
  refine l6 ?_
  cases oi aS
  exact qd ⟨x,y,D,I,u,aq.s,m,ab,ac,ad⟩
 rintro _ cf ⟨o,q,s,O,rfl,aE,cg,bI,bJ,bK⟩
 refine qr (lv (j6 (ds:=[sv l.Field,sv l.Term,V3 o q s]) P2 u m1 aE u u) (lw [sv l.Field,sv l.Term,V3 o q s] P2 aE fun ch aF=>(nq (j9 ?_))))
 cases oi aQ
 exact ez results162 P2 aF m0 ⟨o,q,s,O,u,aF.s,bI,bJ,bK⟩

theorem b0P {q0:u6}{q1:List A1}{r:A5}(hS:SH w K [] w K [])(bH:b7 D9 K A a b q0.Stops)(bI:b7 L0 K B c d q0.Syns)(aw:b7 F6 K C f i q1)(hm:a36 F q0 q1=some r):
  Calls prog 120 #[.agg #[V3 A a b,V3 B c d],V3 C f i] w fun e w'=>∃a_1 n_2 c_3 a_5 n_6 c_7 cs_8 K',e= .returned (.agg #[V3 a_1 n_2 c_3,V3 a_5 n_6 c_7])∧SH w K [] w' K' [tail (V3 a_1 n_2 c_3) 44 3,Z5 (V3 a_5 n_6 c_7) cs_8 99 3]∧b7 F6 K' a_1 n_2 c_3 r.Docs∧E1 true B8 K' cs_8 r.Entries∧n_6=r.Entries.length:=by
 rw [a36] at hm
 refine ci func120 u ntmps120 (sr (bx u hS fun o ee cc=>?_))
 have cd:SH _ _ _ _ _ [s7 o [V3 A a b,V3 B c d] 26]:=cc
 refine al C4 cd fun l ef ce=>?_
 have cf:SH _ _ _ _ _ [s7 l [V3 none 0 0,V3 none 0 0] 30,_]:=ce
 refine nr (lv (C3 (cs:=#[V3 none 0 0,V3 none 0 0]) c5h C4 u (by kernel_rfl)) (al C4 cf fun k eg cg=>?_))
 have ch:SH _ _ _ _ _ [s7 k [V3 none 0 0,V3 none 0 0] 30,_,_]:=cg
 refine lw [V3 none 0 0,V3 none 0 0] C4 ch fun eh bJ=>(nr (mv u ?_))
 obtain⟨ei,cj,ck⟩:=ob hm
 refine lk c5X (b2Q F bJ.enter0 aw cj) ?_
 rintro ej ek ⟨aW,aX,aY,aZ,rfl,q,ba⟩
 have cl:=(bJ.c0 q).t4
 refine av u (O7 (lv (N2 u) (nq ?_)))
 obtain⟨bb,cm,cn⟩:=ob ck
 refine l4 (fun E' w'=>∃ax ay az aL aA aM cs53 x,E'=[(1,V3 C f i),(4,pt l),(5,pt k)]∧SH w K [] w' x [s7 l [V3 none 0 0,V3 none 0 0] 30,s7 k [V3 ax ay az,V3 aL aA aM] 30,Z5 (V3 aL aA aM) cs53 99 3,tail (V3 ax ay az) 44 3]∧M0 aZ x∧b7 F6 x ax ay az bb.Docs∧E1 true B8 x cs53 bb.Entries∧aA=bb.Entries.length) ?_ ?_
 ·refine j7 ?_
  obtain⟨el,cp,cq⟩:=ob cm
  have cr:=SH.rowNil cl 99 3
  have ct:=cr.nil 44 3
  have cu:=ct.f1.f3.f4.f5.sb (sk (sk (sk (sk (sk (sd sz))))))
  refine qw (fun (y:Int×A5) E' w'=>∃ac ad ae aB af aC cs72 S,E'=[(1,V3 C f i),(2,pt o),(4,pt l),(5,pt k),(6,V3 aW aX aY),(7,V6 y.1)]∧SH w K [] w' S [s7 o [V3 A a b,V3 B c d] 26,s7 l [V3 none 0 0,V3 none 0 0] 30,s7 k [V3 ac ad ae,V3 aB af aC] 30,Z5 (V3 aB af aC) cs72 99 3,tail (V3 ac ad ae) 44 3]∧M0 aZ S∧i7 y.1∧b7 F6 S ac ad ae y.2.Docs∧E1 true B8 S cs72 y.2.Entries∧af=y.2.Entries.length) cp ⟨none,0,0,none,0,0,[],aZ,u,cu,kr,I5,(b7.nil _ _),(E1.nil B8 _),u⟩ ?_
  rintro y _ em en cv cw ⟨ac,ad,ae,aB,af,aC,cs72,S,rfl,bK,m,eo,bL,hrow73,hm74⟩
  refine o4 (sr (mv u (mv u (lv (q9 underlying23 u (ba.mono m)) (lv (u7 u u) (nq (D5 cv u (fun cx bc=>?_) (fun cx bc=>?_))))))))
  ·refine j3 (qs (j7 (o4 ?_)))
   have aN:=bK.drew
   refine wh1 (fun w'=>H0 S w'∧B0 o [V3 A a b,V3 B c d] w') (fun w'=>True) 8 [] mixed ⟨aN.hasK kr,aN.hasObj m0⟩ (fun _=>trivial) (gh (fun _ h=>A0 (ds:=[V3 A a b,V3 B c d]) B9 u u u h.2) (gt (i5 u) (gt (i5 u) (gt (i5 u) ?_))))
   obtain⟨cy,cz,cA⟩:=ob bc
   refine gi underlying23 G7 (ba.mono m) cz fun cB cC ep cD cE=>?_
   obtain⟨rfl,cF⟩:=cD
   have cG:F1 _ cB cC [sv cy]:=cE
   refine gh (fun _ h=>a0Y G7 u (cG 0 _ u) h.1) (gn ?_)
   obtain⟨eq,cH,cI⟩:=ob cA
   refine lk c5Y (b2R F aN.enter0 (bH.mono (q.le.trans m)) (bI.mono (q.le.trans m)) (aw.mono (q.le.trans m)) cF cH) ?_
   rintro es et ⟨cJ,cK,cL,bd,rfl,s,bM⟩
   have be:=(aN.c0 s).t6
   refine i8 (qh ⟨be.hasK s.le,be.hasObj m1⟩ (fun _=>trivial) (gt (u9 u) (gd' (qr (lv (N2 u) (nq ?_))))))
   obtain⟨bf,cM,cN⟩:=ob cI
   refine l4 (fun E' w'=>∃aD aE aF aO aG aP cs125 ag,E'=[(1,V3 C f i),(2,pt o),(4,pt l),(5,pt k),(6,V3 aW aX aY),(7,V6 y.1)]∧SH w K [] w' ag [s7 o [V3 A a b,V3 B c d] 26,s7 l [V3 none 0 0,V3 none 0 0] 30,s7 k [V3 aD aE aF,V3 aO aG aP] 30,Z5 (V3 aO aG aP) cs125 99 3,tail (V3 aD aE aF) 44 3]∧M0 bd ag∧b7 F6 ag aD aE aF bf.Docs∧E1 true B8 ag cs125 bf.Entries∧aG=bf.Entries.length) ?_ ?_
   ·refine j7 ?_
    obtain⟨eu,cO,cP⟩:=ob cM
    have cQ:=be.sb (sd (sk (sk (sk (sk (sk sz))))))
    refine qw (fun (ah:Int×A5) E' w'=>∃D G H aH ai aI cs144 T,E'=[(1,V3 C f i),(2,pt o),(4,pt l),(5,pt k),(6,V3 aW aX aY),(7,V6 y.1),(8,V3 cJ cK cL),(9,V6 ah.1)]∧SH w K [] w' T [s7 o [V3 A a b,V3 B c d] 26,s7 l [V3 none 0 0,V3 none 0 0] 30,s7 k [V3 D G H,V3 aH ai aI] 30,Z5 (V3 aH ai aI) cs144 99 3,tail (V3 D G H) 44 3]∧M0 bd T∧i7 ah.1∧b7 F6 T D G H ah.2.Docs∧E1 true B8 T cs144 ah.2.Entries∧ai=ah.2.Entries.length) cO ⟨ac,ad,ae,aB,af,aC,cs72,bd,u,cQ,kr,I5,(bL.mono s.le),(E1.mono s.le hrow73),hm74⟩ ?_
    rintro ah _ ev ew cR cS ⟨D,G,H,aH,ai,aI,cs144,T,rfl,bN,I,ex,bO,hrow145,hm146⟩
    refine o4 (sr (mv u (mv u (lv (q9 underlying23 u (bM.mono I)) (lv (u7 u u) (nq (D5 cR u (fun cT bg=>?_) (fun cT bg=>?_))))))))
    ·refine j3 (qs (j7 ?_))
     have aJ:=bN.drew
     refine wh1 (fun w'=>H0 T w'∧B0 o [V3 A a b,V3 B c d] w') (fun w'=>B0 k [V3 D G H,V3 aH ai aI] w') 16 [(1,14),(1,15),(1,16),(14,15),(14,16),(15,16)] mixed ⟨aJ.hasK kr,aJ.hasObj m0⟩ (fun _=>aJ.hasObj (.tail _ (.tail _ (.head _)))) (gt (c7 M2 u) (gf (fun _ h=>B5 a1e u u h) (gh (fun _ h=>A0 (ds:=[V3 A a b,V3 B c d]) B9 u u u h.2) (gt (i5 u) (gt (i5 u) (gt (i5 u) ?_))))))
     obtain⟨cU,cV,cW⟩:=ob bg
     refine gi underlying23 G7 (ba.mono ((m.trans s.le).trans I)) cV fun cX cY eA cZ da=>?_
     obtain⟨rfl,db⟩:=cZ
     have dc:F1 _ cX cY [sv cU]:=da
     refine gh (fun _ h=>a0Y G7 u (dc 0 _ u) h.1) (gt (i5 u) (gt (i5 u) ?_))
     obtain⟨dd,de,df⟩:=ob cW
     refine gi underlying23 G7 (bM.mono I) de fun dg dh eB di dj=>?_
     obtain⟨rfl,dk⟩:=di
     have dl:F1 _ dg dh [sv dd]:=dj
     refine gh (fun _ h=>a0Y G7 u (dl 0 _ u) h.1) (gn ?_)
     obtain⟨aK,dm,dn⟩:=ob df
     refine lk c5Z (b2P F aJ.enter0 (b7.mono (((q.le.trans m).trans s.le).trans I) bH) (b7.mono (((q.le.trans m).trans s.le).trans I) bI) (b7.mono (((q.le.trans m).trans s.le).trans I) aw) db dk dm) ?_
     rintro eC eD ⟨bh,bi,bj,eE,rfl,J,dp,dq,dr⟩
     have aQ:=(aJ.c0 J).t6
     refine i8 (qh ⟨aQ.hasK J.le,aQ.hasObj m1⟩ (fun _=>aQ.hasObj (.tail _ (.tail _ (.tail _ (.head _))))) (gn (lb B8 (.agg #[sv aK.Field,sv aK.Term,V3 bh bi bj]) [sv aK.Field,sv aK.Term,V3 bh bi bj] aK underlying28 P2 ⟨bh,bi,bj,u,dp,dq,dr⟩ aQ fun eF eG dt aj du aR=>(i8 (qh ⟨aR.hasK (J.le.trans aj),aR.hasObj m2⟩ (fun _=>aR.hasObj (.tail _ (.tail _ (.tail _ (.tail _ (.head _)))))) (gn ?_))))))
     obtain⟨eH,dv,dw⟩:=ob dn
     refine b4s (t:=B8) wn u underlying28 P2 u u u u (E1.mono (J.le.trans aj) hrow145) hm146 du dv aR.f5 fun bk bl bm cs202 eI hrow204 hm205 aS=>(i8 (qh ⟨aS.hasK (J.le.trans aj),aS.hasObj m3⟩ (fun _=>aS.hasObj (.tail _ (.tail _ (.tail _ (.tail _ (.tail _ (.head _))))))) (gt (c7 M2 u) (gn (ls [V3 D G H,V3 bk bl bm] (V3 bk bl bm) a1e aS.f5 fun eJ bn=>(i8 (qh ⟨bn.hasK (J.le.trans aj),bn.hasObj m4⟩ (fun h=>by cases h) (gd' (x8 (l5 (j5 ?_)))))))))))
     refine mv u (lv (y7 u u) (av u (i8 ?_)))
     cases oi dw
     exact qd ⟨_,u,D,G,H,bk,bl,bm,cs202,dt,u,bn.f6.f2.f2.f6.f6.s,((I.trans J.le).trans aj),(u0 _),(bO.mono (J.le.trans aj)),hrow204,hm205⟩
    refine y4 (g8 (g8 ?_))
    cases oi bg
    cases cS _ u
    refine l6 ?_
    cases oi cP
    exact qd ⟨D,G,H,aH,ai,aI,cs144,T,u,bN,I,bO,hrow145,hm146⟩
   rintro _ eK ⟨aD,aE,aF,aO,aG,aP,cs125,ag,rfl,dx,dy,dz,hrow126,hm127⟩
   refine x8 (l5 (j5 (mv u (lv (y7 u u) (av u (i8 ?_))))))
   cases oi cN
   exact qd ⟨_,u,aD,aE,aF,aO,aG,aP,cs125,ag,u,dx,((m.trans s.le).trans dy),(u0 _),dz,hrow126,hm127⟩
  refine y4 (g8 (g8 ?_))
  cases oi bc
  cases cw _ u
  refine l6 ?_
  cases oi cq
  exact qd ⟨ac,ad,ae,aB,af,aC,cs72,S,u,bK.s,m,bL,hrow73,hm74⟩
 rintro _ eL ⟨ax,ay,az,aL,aA,aM,cs53,x,rfl,dA,bP,dB,hrow54,hm55⟩
 refine qs (sr (lv (N2 u) (nq ?_)))
 obtain⟨bo,dC,dD⟩:=ob cn
 refine l4 (fun E' w'=>∃U V W ak X am cs233 an,E'=[(4,pt l),(5,pt k)]∧SH w K [] w' an [s7 l [V3 none 0 0,V3 none 0 0] 30,s7 k [V3 U V W,V3 ak X am] 30,Z5 (V3 ak X am) cs233 99 3,tail (V3 U V W) 44 3]∧M0 x an∧b7 F6 an U V W bo.Docs∧E1 true B8 an cs233 bo.Entries∧X=bo.Entries.length) ?_ ?_
 ·refine j7 ?_
  obtain⟨eM,dE,dF⟩:=ob dC
  refine qw (fun (ao:Int×A5) E' w'=>∃ap aq ar Y O aa cs252 ab,E'=[(1,V3 C f i),(4,pt l),(5,pt k),(10,V6 ao.1)]∧SH w K [] w' ab [s7 l [V3 none 0 0,V3 none 0 0] 30,s7 k [V3 ap aq ar,V3 Y O aa] 30,Z5 (V3 Y O aa) cs252 99 3,tail (V3 ap aq ar) 44 3]∧M0 x ab∧i7 ao.1∧b7 F6 ab ap aq ar ao.2.Docs∧E1 true B8 ab cs252 ao.2.Entries∧O=ao.2.Entries.length) dE ⟨ax,ay,az,aL,aA,aM,cs53,x,u,dA,kr,I5,dB,hrow54,hm55⟩ ?_
  rintro ao _ eN eO dG dH ⟨ap,aq,ar,Y,O,aa,cs252,ab,rfl,bQ,aT,eP,bR,hrow253,hm254⟩
  refine o4 (sr (mv u (mv u (lv (q9 underlying27 u (aw.mono ((q.le.trans bP).trans aT))) (lv (u7 u u) (nq (D5 dG u (fun dI bp=>?_) (fun dI bp=>?_))))))))
  ·refine j3 (qs (j7 ?_))
   have aU:=bQ.drew
   refine wh1 (fun w'=>H0 ab w') (fun w'=>B0 k [V3 ap aq ar,V3 Y O aa] w') 10 [(1,8),(1,9),(1,10),(8,9),(8,10),(9,10)] mixed (aU.hasK kr) (fun _=>aU.hasObj (.tail _ (.head _))) (gt (c7 L3 u) (gf (fun _ h=>B5 a1b u u h) (gt (i5 u) (gt (i5 u) ?_))))
   obtain⟨bS,dJ,dK⟩:=ob bp
   refine gi underlying27 E8 (aw.mono ((q.le.trans bP).trans aT)) dJ fun dL dM eQ dN dO=>?_
   obtain⟨bT,bU,bV,bW,bX,bY,rfl,dP,dQ,dR⟩:=dN
   have dS:F1 _ dL dM [V6 bS.Id,V3 bT bU bV,V3 bW bX bY]:=dO
   refine gh (fun _ h=>a67 (cs:=[V6 bS.Id,V3 bT bU bV,V3 bW bX bY]) E8 u dS u h) (gn ?_)
   obtain⟨bq,dT,dU⟩:=ob dK
   refine lk c50 (b0O F aU.enter0 dP dQ dR dT) ?_
   rintro eR eS ⟨br,bs,bu,bv,bz,bA,eT,rfl,R,dV,dW,dX⟩
   have bB:=(aU.c0 R).t6
   refine i8 (qh (bB.hasK R.le) (fun _=>bB.hasObj (.tail _ (.tail _ (.tail _ (.head _))))) (gn (lb F6 (.agg #[V6 bq.Id,V3 br bs bu,V3 bv bz bA]) [V6 bq.Id,V3 br bs bu,V3 bv bz bA] bq underlying27 E8 ⟨br,bs,bu,bv,bz,bA,u,dV,dW,dX⟩ bB fun eU eV eW au dY bC=>(i8 (qh (bC.hasK (R.le.trans au)) (fun _=>bC.hasObj (.tail _ (.tail _ (.tail _ (.tail _ (.head _)))))) (gn ?_))))))
   obtain⟨eX,dZ,ea⟩:=ob dU
   refine lp underlying27 E8 (bR.mono (R.le.trans au)) dY dZ bC.f6 fun bD bE bF eY eb aV ec bG=>(i8 (qh (bG.hasK ((R.le.trans au).trans aV)) (fun _=>bG.hasObj (.tail _ (.tail _ (.tail _ (.tail _ (.tail _ (.head _))))))) (gt (c7 L3 u) (gn (ls [V3 bD bE bF,V3 Y O aa] (V3 bD bE bF) a1b bG.f5 fun eZ bZ=>(i8 (qh (bZ.hasK ((R.le.trans au).trans aV)) (fun h=>by cases h) (gd' (x8 (l5 (j5 ?_)))))))))))
   refine mv u (lv (y7 u u) (av u (i8 ?_)))
   cases oi ea
   exact qd ⟨_,u,bD,bE,bF,Y,O,aa,cs252,eb,u,bZ.f1.f6.f2.f6.s,(((aT.trans R.le).trans au).trans aV),(u0 _),ec,(E1.mono ((R.le.trans au).trans aV) hrow253),hm254⟩
  refine y4 (g8 (g8 ?_))
  cases oi bp
  cases dH _ u
  refine l6 ?_
  cases oi dF
  exact qd ⟨ap,aq,ar,Y,O,aa,cs252,ab,u,bQ,aT,bR,hrow253,hm254⟩
 rintro _ fb ⟨U,V,W,ak,X,am,cs233,an,rfl,ca,fc,ed,hrow234,hm235⟩
 refine qr (lv (j6 (ds:=[V3 U V W,V3 ak X am]) C4 u m1 ca u u) (lw [V3 U V W,V3 ak X am] C4 ca fun fd cb=>(nq (j9 ?_))))
 cases oi dD
 exact ez results120 C4 cb m0 ⟨U,V,W,ak,X,am,cs233,an,u,cb.f2.f3.s,ed,hrow234,hm235⟩

theorem b2N {q0:z7}{r:(List A1)×z7}(hS:SH w K Z w K [s7 g1 [V3 A a b,V6 q0.p_] 141])(aj:b7 tU8 K A a b q0.b_)(ak:i7 q0.p_)(hm:a2T F q0=some r):
  Calls prog 149 #[.pointer (some ⟨g1,0,none⟩)] w fun e w'=>∃a_1 n_2 c_3 a_5 n_6 c_7 K',e= .returned (V3 a_1 n_2 c_3)∧SH w K Z w' K' [tail (V3 a_1 n_2 c_3) 44 3,s7 g1 [V3 a_5 n_6 c_7,V6 r.2.p_] 141]∧b7 F6 K' a_1 n_2 c_3 r.1∧b7 tU8 K' a_5 n_6 c_7 r.2.b_∧i7 r.2.p_:=by
 rw [a2T] at hm
 refine ci func149 u ntmps149 (sr (lv (r_n u) (nr (b0 F6 underlying27 E8 hS fun a7 w9 bm am an ao=>(av u (nr (lv (N2 u) (O7 (mv u ?_)))))))))
 obtain⟨bn,ap,aq⟩:=ob hm
 have ab:=ao.f1
 refine lk a4r (A6 F ab.e1 (aj.mono am) ak (by decide :i7 6) ap) ?_
 rintro bo bp ⟨ar,au,aw,H,rfl,ac,ax,ay,az⟩
 have aA:=(ab.c1 ac).t2
 refine av u (nq ?_)
 obtain⟨s,aB,aC⟩:=ob aq
 refine l4 (fun E' w'=>∃i k l x y B d,E'=[(0,pt g1),(3,V3 i k l)]∧SH w K Z w' d [s7 g1 [V3 x y B,V6 s.2.p_] 141,tail (V3 i k l) 44 3]∧M0 H d∧b7 F6 d i k l s.1∧b7 tU8 d x y B s.2.b_∧i7 s.2.p_) ?_ ?_
 ·refine j7 ?_
  obtain⟨bq,aD,aE⟩:=ob aB
  refine qw (fun (c:(List A1)×Int×Int×z7) E' w'=>∃m o q C D G f,E'=[(0,pt g1),(3,V3 m o q),(4,V6 c.2.1),(5,V6 c.2.2.1)]∧SH w K Z w' f [s7 g1 [V3 C D G,V6 c.2.2.2.p_] 141,tail (V3 m o q) 44 3]∧M0 H f∧b7 F6 f m o q c.1∧i7 c.2.1∧i7 c.2.2.1∧b7 tU8 f C D G c.2.2.2.b_∧i7 c.2.2.2.p_) aD ⟨a7,0,0,ar,au,aw,H,u,aA,kr,(an.mono ac.le),I5,ax,ay,az⟩ ?_
  rintro c _ br bs aF aG ⟨m,o,q,C,D,G,f,rfl,I,ad,ae,bu,bv,af,ag⟩
  refine o4 (sr (mv u (lv (E7 u u) (nq (D5 aF u (fun aH J=>?_) (fun aH J=>?_))))))
  ·refine j3 (qs (j7 (sr (mv u (lv (y7 u u) (mv u ?_))))))
   obtain⟨bx,aI,aJ⟩:=ob J
   refine lk a4r (A6 F I.e1 af ag (by decide :i7 3) aI) ?_
   rintro bz bA ⟨bB,bC,bD,bE,rfl,O,bF,aK,aL⟩
   have ah:=(I.c1 O).t2
   refine lv (y7 u u) (av u (nq (j5 (mv u (mv u (mv u ?_))))))
   obtain⟨R,aM,aN⟩:=ob aJ
   refine lk c6c (b3S F ah.e1 aK aL (u0 _) aM) ?_
   rintro bG bH ⟨S,T,U,V,W,X,aO,aP,aQ,bI,rfl,Y,aR,aS,aT,aU,aV⟩
   have aW:=(ah.c1 Y).t4
   refine lb F6 (.agg #[V6 R.1.Id,V3 S T U,V3 V W X]) [V6 R.1.Id,V3 S T U,V3 V W X] R.1 underlying27 E8 ⟨S,T,U,V,W,X,u,aR,aS,aT⟩ aW fun bJ bK bL aa aX aY=>?_
   obtain⟨bM,aZ,ba⟩:=ob aN
   refine lp underlying27 E8 (ae.mono ((O.le.trans Y.le).trans aa)) aX aZ aY.f4 fun bb bc bd bN be ai bf bg=>(av u (nb (l5 (j5 (mv u (lv (I6 u u) (av u (i8 ?_))))))))
   cases oi ba
   exact qd ⟨_,u,bb,bc,bd,aO,aP,aQ,be,u,bg.f4.s,((((ad.trans O.le).trans Y.le).trans aa).trans ai),bf,(u0 _),(u0 _),(aU.mono (aa.trans ai)),aV⟩
  refine y4 (g8 (g8 ?_))
  cases oi J
  cases aG _ u
  refine l6 ?_
  cases oi aE
  exact qd ⟨m,o,q,C,D,G,f,u,I,ad,ae,af,ag⟩
 rintro _ bO ⟨i,k,l,x,y,B,d,rfl,bh,bP,bi,bj,bk⟩
 refine qr (mv u (av u (nq (j9 ?_))))
 cases oi aC
 exact ey results149 ⟨i,k,l,x,y,B,d,u,bh.f1,bi,bj,bk⟩

theorem b3U {q0:z7}{r:u6×A5×z7}(hS:SH w K Z w K [s7 g1 [V3 A a b,V6 q0.p_] 141])(V:b7 tU8 K A a b q0.b_)(W:i7 q0.p_)(hm:a3N F q0=some r):
  Calls prog 107 #[.pointer (some ⟨g1,0,none⟩)] w fun e w'=>∃a_1 n_2 c_3 a_5 n_6 c_7 a_9 n_10 c_11 a_13 n_14 c_15 cs_16 a_19 n_20 c_21 K',e= .returned (.tuple #[.agg #[V3 a_1 n_2 c_3,V3 a_5 n_6 c_7],.agg #[V3 a_9 n_10 c_11,V3 a_13 n_14 c_15]])∧SH w K Z w' K' [tail (V3 a_1 n_2 c_3) 9 1,tail (V3 a_5 n_6 c_7) 144 2,tail (V3 a_9 n_10 c_11) 44 3,Z5 (V3 a_13 n_14 c_15) cs_16 99 3,s7 g1 [V3 a_19 n_20 c_21,V6 r.2.2.p_] 141]∧b7 D9 K' a_1 n_2 c_3 r.1.Stops∧b7 L0 K' a_5 n_6 c_7 r.1.Syns∧b7 F6 K' a_9 n_10 c_11 r.2.1.Docs∧E1 true B8 K' cs_16 r.2.1.Entries∧n_14=r.2.1.Entries.length∧b7 tU8 K' a_19 n_20 c_21 r.2.2.b_∧i7 r.2.2.p_:=by
 rw [a3N] at hm
 refine ci func107 u ntmps107 (sr (al B9 hS fun X w9 Y=>?_))
 have aa:SH _ _ _ _ _ [s7 X [V3 none 0 0,V3 none 0 0] 26,_]:=Y
 refine al C4 aa fun ab aF ac=>?_
 have ad:SH _ _ _ _ _ [s7 ab [V3 none 0 0,V3 none 0 0] 30,_,_]:=ac
 refine nr (mv u ?_)
 obtain⟨aG,ae,af⟩:=ob hm
 have O:=ad.f2
 refine lk c5P (b2M F O.e1 V W ae) ?_
 rintro aH aI ⟨f,i,k,l,m,o,aJ,aK,aL,ag,rfl,ah,R,S,ai,aj⟩
 have ak:=(O.c1 ah).t5
 refine al B9 ak fun T aM am=>?_
 have an:SH _ _ _ _ _ [s7 T [V3 none 0 0,V3 none 0 0] 26,_,_,_,_,_]:=am
 refine lw [V3 f i k,V3 l m o] B9 an fun aN ao=>(ns ?_)
 have x:=ao.drew
 refine wh1 (fun w'=>H0 ag w'∧B0 T [V3 f i k,V3 l m o] w') (fun w'=>True) 7 [] mixed ⟨x.hasK kr,x.hasObj m0⟩ (fun _=>trivial) (gh (fun _ h=>A0 (ds:=[V3 f i k,V3 l m o]) B9 u u u h.2) (gh (fun _ h=>A0 (ds:=[V3 f i k,V3 l m o]) B9 u u u h.2) (gt (i5 u) (gn ?_))))
 obtain⟨aO,ap,aq⟩:=ob af
 have U:=x.f3
 refine lk c5Q (b2N F U.e1 ai aj ap) ?_
 rintro aP aQ ⟨aR,aS,aT,ar,au,aw,aU,rfl,d,ax,ay,az⟩
 have v:=(U.c1 d).t7
 refine i8 (qh ⟨v.hasK d.le,v.hasObj m2⟩ (fun _=>trivial) (gn ?_))
 obtain⟨aV,aA,aB⟩:=ob aq
 refine lk c3Q (b0P F v.enter0 (R.mono d.le) (S.mono d.le) ax aA) ?_
 rintro aW aX ⟨y,B,C,D,G,H,cs77,aC,rfl,q,aD,hrow78,hm79⟩
 have I:=(v.c0 q).t9
 refine i8 (qh ⟨I.hasK (d.le.trans q.le),I.hasObj m4⟩ (fun _=>trivial) (gn (lw [V3 f i k,V3 l m o] B9 I.f8 fun aY J=>(i8 (qh ⟨J.hasK (d.le.trans q.le),J.hasObj m5⟩ (fun _=>trivial) (gn (lw [V3 y B C,V3 D G H] C4 J.f8 fun aZ s=>(i8 (qh ⟨s.hasK (d.le.trans q.le),s.hasObj m6⟩ (fun _=>trivial) (gd' (l5 (j9 ?_))))))))))))
 cases oi aB
 exact S7 (vs:=[_,_]) results107 ⟨⟨_,_,u,B2 B9 (cs:=[V3 f i k,V3 l m o]) (fun j c e=>by rw [Nat.zero_add,s.mem_obj m1];exact e) (.inl ⟨u,u,u⟩)⟩,⟨_,_,u,B2 C4 (cs:=[V3 y B C,V3 D G H]) (fun j c e=>by rw [Nat.zero_add,s.mem_obj m0];exact e) (.inl ⟨u,u,u⟩)⟩,trivial⟩ ⟨f,i,k,l,m,o,y,B,C,D,G,H,cs77,ar,au,aw,aC,u,s.f5.f4.f4.f8.f8.s,(R.mono (d.le.trans q.le)),(S.mono (d.le.trans q.le)),aD,hrow78,hm79,(ay.mono q.le),az⟩

theorem a2A {q0:z7}{r:u6×A5×z7}(hS:SH w K Z w K [s7 g1 [V3 A a b,V6 q0.p_] 141])(bl:b7 tU8 K A a b q0.b_)(bm:i7 q0.p_)(hm:S5 F q0=some r):
  Calls prog 56 #[.pointer (some ⟨g1,0,none⟩)] w fun e w'=>∃a_1 n_2 c_3 a_5 n_6 c_7 a_9 n_10 c_11 a_13 n_14 c_15 a_17 n_18 c_19 K',e= .returned (.tuple #[.agg #[V3 a_1 n_2 c_3,V3 a_5 n_6 c_7],.agg #[V3 a_9 n_10 c_11,V3 a_13 n_14 c_15]])∧SH w K Z w' K' [tail (V3 a_1 n_2 c_3) 9 1,tail (V3 a_5 n_6 c_7) 144 2,tail (V3 a_13 n_14 c_15) 99 3,s7 g1 [V3 a_17 n_18 c_19,V6 r.2.2.p_] 141]∧b7 D9 K' a_1 n_2 c_3 r.1.Stops∧b7 L0 K' a_5 n_6 c_7 r.1.Syns∧b7 F6 K' a_9 n_10 c_11 r.2.1.Docs∧b7 B8 K' a_13 n_14 c_15 r.2.1.Entries∧b7 tU8 K' a_17 n_18 c_19 r.2.2.b_∧i7 r.2.2.p_:=by
 rw [S5] at hm
 refine ci func56 rfl ntmps56 (sr (al B9 hS fun g7 w9 bo=>?_))
 have bp:SH _ _ _ _ _ [s7 g7 [V3 none 0 0,V3 none 0 0] 26,_]:=bo
 refine al C4 bp fun bq cJ br=>?_
 have bs:SH _ _ _ _ _ [s7 bq [V3 none 0 0,V3 none 0 0] 30,_,_]:=br
 refine nr (mv rfl ?_)
 obtain⟨cK,bu,bv⟩:=ob hm
 have bc:=bs.f2
 refine lk c5s (b3U F bc.e1 bl bm bu) ?_
 rintro cL cM ⟨f,i,k,l,m,o,s,x,y,q,B,C,cs38,bx,bz,bA,bB,rfl,bC,aa,ab,ac,hrow39,hm40,bd,be⟩
 have bD:=(bc.c1 bC).t7
 refine mv rfl (lv (y3 rfl rfl) (lv (y3 rfl rfl) (al B9 bD fun Y cN bE=>?_)))
 have bF:SH _ _ _ _ _ [s7 Y [V3 none 0 0,V3 none 0 0] 26,_,_,_,_,_,_,_]:=bE
 refine al C4 bF fun O cO bG=>?_
 have bH:SH _ _ _ _ _ [s7 O [V3 none 0 0,V3 none 0 0] 30,_,_,_,_,_,_,_,_]:=bG
 refine lw [V3 f i k,V3 l m o] B9 bH.f1 fun cP bI=>(lw [V3 s x y,V3 q B C] C4 bI.f1 fun cQ ad=>(O7 (fl M2 rfl a1e m0 ad rfl (lv (a69 underlying28 rfl hm40) (lv (E7 rfl rfl) (nq (D5 bv rfl (fun bJ aR=>?_) (fun bJ aR=>?_))))))))
 ·refine sr (mv rfl (fl M2 rfl a1e m0 ad rfl (lv (a69 underlying28 rfl hm40) ?_)))
  obtain⟨aS,bK,bL⟩:=ob aR
  have bf:=ad.f6
  refine lk a4r (A6 F bf.e1 bd be (a0Z (b7q ad m5 hm40)) bK) ?_
  rintro cR cS ⟨cT,cU,cV,cW,rfl,D,cX,bM,bN⟩
  have bg:=(bf.c1 D).t9
  refine av rfl (nr (mv rfl ?_))
  obtain⟨cY,bO,bP⟩:=ob bL
  refine lk a4r (A6 F bg.e1 bM bN (by decide :i7 16) bO) ?_
  rintro cZ da ⟨aj,ak,am,an,rfl,G,db,ao,ap⟩
  have R:=(bg.c1 G).t9
  refine nq (j7 (sr (lv (A9 rfl rfl) (av rfl (nq (D5 bP rfl (fun bQ aT=>?_) (fun bQ aT=>?_)))))))
  ·refine j5 (fl M2 rfl a1e m1 R rfl (mv rfl ?_))
   obtain⟨H,ae,bR⟩:=ob aT
   obtain⟨dc,bh⟩:=SH.rowI_at R m6 hm40 ae
   obtain⟨dd,bS,bT⟩:=E1.at (E1.mono (D.le.trans G.le) hrow39) ae
   obtain⟨aq,ar,au,rfl,bU,de,bV⟩:=bS
   have bW: ∀(j:Nat) (d:Value),[sv H.Field,sv H.Term,V3 aq ar au][j]? =some d→cs38[aS.1.toNat*B8.size+j]? =some d:=bT
   refine lv (a5Q (t:=B8) underlying28 P2 rfl rfl bh hm40 ae) (fa a21 rfl (c1e (t:=B8) (off:=1) (ds:=[sv H.Field,sv H.Term,V3 aq ar au]) (v:=sv [122,122,122]) (u:=.agg #[sv H.Field,sv [122,122,122],V3 aq ar au]) (e:=(C0.mk H.Field ([122,122,122]:r4) H.Posts)) wn G7 rfl rfl rfl rfl (by simp [Value.cells,Value.oneCell',sv]) bh R.f6 (E1.mono (D.le.trans G.le) hrow39) hm40 ae bW rfl rfl ⟨aq,ar,au,rfl,bU,(by decide :([122,122,122]:r4).length≤maxLen),bV⟩ fun cs111 df hrow113 hm114 bX=>?_))
   have bY:=c1Q (e:=(C0.mk H.Field ([122,122,122]:r4) H.Posts)) ae
   obtain⟨dg,bZ,ca⟩:=E1.at hrow113 bY
   obtain⟨cb,cc,cd,rfl,dh,di,dj⟩:=bZ
   have dk: ∀(j:Nat) (d:Value),[sv ((C0.mk H.Field ([122,122,122]:r4) H.Posts).Field),sv ((C0.mk H.Field ([122,122,122]:r4) H.Posts).Term),V3 cb cc cd][j]? =some d→cs111[aS.1.toNat*B8.size+j]? =some d:=ca
   refine nb (qs ?_)
   have aw:=bX.drew
   refine wh1 (fun w'=>H0 an w'∧B0 Y [V3 f i k,V3 l m o] w'∧B0 O [V3 s x y,V3 q B C] w') (fun w'=>True) 4 [] mixed ⟨aw.hasK kr,aw.hasObj m3,aw.hasObj m2⟩ (fun _=>trivial) (gh (fun _ h=>A0 (ds:=[V3 f i k,V3 l m o]) B9 rfl rfl rfl h.2.1) (gh (fun _ h=>A0 (ds:=[V3 s x y,V3 q B C]) C4 rfl rfl rfl h.2.2) (gn (lw [V3 f i k,V3 l m o] B9 aw.f8 fun dl ax=>(i8 (qh ⟨ax.hasK kr,ax.hasObj m4,ax.hasObj m3⟩ (fun _=>trivial) (gn (lw [V3 s x y,V3 q B C] C4 ax.f8 fun dm ay=>(i8 (qh ⟨ay.hasK kr,ay.hasObj m5,ay.hasObj m4⟩ (fun _=>trivial) (gd' ?_)))))))))))
   refine l5 (j9 ?_)
   obtain⟨ce,az,cf,aU⟩:=SH.freezeI ay.f2 hrow113 hm114
   cases oi bR
   exact S7 (vs:=[_,_]) results56 ⟨⟨_,_,rfl,B2 B9 (cs:=[V3 f i k,V3 l m o]) (fun j c e=>by rw [Nat.zero_add,aU.mem_obj m2];exact e) (.inl ⟨rfl,rfl,rfl⟩)⟩,⟨_,_,rfl,B2 C4 (cs:=[V3 s x y,V3 q B C]) (fun j c e=>by rw [Nat.zero_add,aU.mem_obj m1];exact e) (.inl ⟨rfl,rfl,rfl⟩)⟩,trivial⟩ ⟨f,i,k,l,m,o,s,x,y,q,B,C,aj,ak,am,ce,rfl,aU.f3.f1.f7.f7.s,(aa.mono ((D.le.trans G.le).trans az)),(ab.mono ((D.le.trans G.le).trans az)),(ac.mono ((D.le.trans G.le).trans az)),cf,(ao.mono az),ap⟩
  refine sr (lv (A9 rfl rfl) (av rfl (nq (D5 aT rfl (fun cg aV=>?_) (fun cg aV=>?_)))))
  ·have af:=R.drew
   refine wh1 (fun w'=>H0 an w') (fun w'=>B0 O [V3 s x y,V3 q B C] w'∧a9N q cs38 w') 8 [(1,8),(3,5),(5,6),(6,7),(7,8)] mixed (af.hasK kr) (fun _=>⟨af.hasObj m1,af.hasRow m6⟩) (gt (c7 M2 rfl) (gf (fun _ h=>B5 a1e rfl rfl h.1) (gt (c7 M2 rfl) (gf (fun _ h=>B5 a1e rfl rfl h.1) (gt (i5 rfl) ?_)))))
   obtain⟨I,aW,ch⟩:=ob aV
   obtain⟨dn,bi⟩:=SH.rowI_at af m6 hm40 aW
   obtain⟨dp,cj,ck⟩:=E1.at (E1.mono (D.le.trans G.le) hrow39) aW
   obtain⟨ag,ah,ai,rfl,cl,cm,cn⟩:=cj
   have cp: ∀(j:Nat) (d:Value),[sv I.Field,sv I.Term,V3 ag ah ai][j]? =some d→cs38[aS.1.toNat*B8.size+j]? =some d:=ck
   refine gt (a5Q (t:=B8) underlying28 P2 rfl rfl bi hm40 aW) (gf (fun _ h=>(c0D (ds:=[sv I.Field,sv I.Term,V3 ag ah ai]) P2 rfl cp rfl bi h.2)) (gn (lb B8 (.agg #[sv I.Field,sv I.Term,V3 ag ah ai]) [sv I.Field,sv I.Term,V3 ag ah ai] I underlying28 P2 ⟨ag,ah,ai,rfl,cl,cm,cn⟩ af fun dq dr cq J cr aA=>(i8 (qh (aA.hasK J) (fun _=>⟨aA.hasObj m2,aA.hasRow m7⟩) (gn ?_))))))
   obtain⟨dt,ct,cu⟩:=ob ch
   refine b4s (t:=B8) wn rfl underlying28 P2 rfl rfl rfl rfl (E1.mono ((D.le.trans G.le).trans J) hrow39) hm40 cr ct aA.f7 fun S T U a4G du hrow179 hm180 bj=>(i8 (qh (bj.hasK J) (fun h=>by cases h) (gt (c7 M2 rfl) (gn (ls [V3 s x y,V3 S T U] (V3 S T U) a1e bj.f3 fun dv bk=>(i8 (qh (bk.hasK J) (fun h=>by cases h) (gd' (x8 (qs ?_))))))))))
   have aB:=bk.drew
   refine wh1 (fun w'=>H0 cq w'∧B0 Y [V3 f i k,V3 l m o] w'∧B0 O [V3 s x y,V3 S T U] w') (fun w'=>True) 4 [] mixed ⟨aB.hasK kr,aB.hasObj m4,aB.hasObj m0⟩ (fun _=>trivial) (gh (fun _ h=>A0 (ds:=[V3 f i k,V3 l m o]) B9 rfl rfl rfl h.2.1) (gh (fun _ h=>A0 (ds:=[V3 s x y,V3 S T U]) C4 rfl rfl rfl h.2.2) (gn (lw [V3 f i k,V3 l m o] B9 aB.f9 fun dw aC=>(i8 (qh ⟨aC.hasK kr,aC.hasObj m5,aC.hasObj m1⟩ (fun _=>trivial) (gn (lw [V3 s x y,V3 S T U] C4 aC.f9 fun dx aD=>(i8 (qh ⟨aD.hasK kr,aD.hasObj m6,aD.hasObj m2⟩ (fun _=>trivial) (gd' ?_)))))))))))
   refine l5 (j9 ?_)
   obtain⟨cv,aE,cw,aX⟩:=SH.freezeI aD.f3 hrow179 hm180
   cases oi cu
   exact S7 (vs:=[_,_]) results56 ⟨⟨_,_,rfl,B2 B9 (cs:=[V3 f i k,V3 l m o]) (fun j c e=>by rw [Nat.zero_add,aX.mem_obj m2];exact e) (.inl ⟨rfl,rfl,rfl⟩)⟩,⟨_,_,rfl,B2 C4 (cs:=[V3 s x y,V3 S T U]) (fun j c e=>by rw [Nat.zero_add,aX.mem_obj m1];exact e) (.inl ⟨rfl,rfl,rfl⟩)⟩,trivial⟩ ⟨f,i,k,l,m,o,s,x,y,S,T,U,aj,ak,am,cv,rfl,aX.f5.f1.f8.f8.s,(b7.mono (((D.le.trans G.le).trans J).trans aE) aa),(b7.mono (((D.le.trans G.le).trans J).trans aE) ab),(b7.mono (((D.le.trans G.le).trans J).trans aE) ac),cw,(ao.mono (J.trans aE)),ap⟩
  refine sr (lv (A9 rfl rfl) (av rfl (nq (D5 aV rfl (fun cx aY=>?_) (fun cx aY=>?_)))))
  ·refine j5 (fl L3 rfl a1b m1 R rfl ?_)
   obtain⟨dy,cy,cz⟩:=ob aY
   refine a9h (t:=F6) wn rfl underlying27 E8 rfl rfl (ac.mono (D.le.trans G.le)) cy fun V W X cA=>(fa L3 rfl (ls [V3 V W X,V3 q B C] (V3 V W X) a1b R.f1 fun dz cB=>(nb (qs ?_))))
   have aF:=cB.drew
   refine wh1 (fun w'=>H0 an w'∧B0 Y [V3 f i k,V3 l m o] w'∧B0 O [V3 V W X,V3 q B C] w') (fun w'=>True) 4 [] mixed ⟨aF.hasK kr,aF.hasObj m2,aF.hasObj m0⟩ (fun _=>trivial) (gh (fun _ h=>A0 (ds:=[V3 f i k,V3 l m o]) B9 rfl rfl rfl h.2.1) (gh (fun _ h=>A0 (ds:=[V3 V W X,V3 q B C]) C4 rfl rfl rfl h.2.2) (gn (lw [V3 f i k,V3 l m o] B9 aF.f8 fun dA aG=>(i8 (qh ⟨aG.hasK kr,aG.hasObj m3,aG.hasObj m1⟩ (fun _=>trivial) (gn (lw [V3 V W X,V3 q B C] C4 aG.f8 fun dB aH=>(i8 (qh ⟨aH.hasK kr,aH.hasObj m4,aH.hasObj m2⟩ (fun _=>trivial) (gd' ?_)))))))))))
   refine l5 (j9 ?_)
   obtain⟨cC,aI,cD,aZ⟩:=SH.freezeI aH.f8 (E1.mono (D.le.trans G.le) hrow39) hm40
   cases oi cz
   exact S7 (vs:=[_,_]) results56 ⟨⟨_,_,rfl,B2 B9 (cs:=[V3 f i k,V3 l m o]) (fun j c e=>by rw [Nat.zero_add,aZ.mem_obj m2];exact e) (.inl ⟨rfl,rfl,rfl⟩)⟩,⟨_,_,rfl,B2 C4 (cs:=[V3 V W X,V3 q B C]) (fun j c e=>by rw [Nat.zero_add,aZ.mem_obj m1];exact e) (.inl ⟨rfl,rfl,rfl⟩)⟩,trivial⟩ ⟨f,i,k,l,m,o,V,W,X,q,B,C,aj,ak,am,cC,rfl,aZ.f4.f1.f7.f7.s,(aa.mono ((D.le.trans G.le).trans aI)),(ab.mono ((D.le.trans G.le).trans aI)),(cA.mono aI),cD,(ao.mono aI),ap⟩
  refine j3 (x8 (qs ?_))
  have aJ:=R.drew
  refine wh1 (fun w'=>H0 an w'∧B0 Y [V3 f i k,V3 l m o] w'∧B0 O [V3 s x y,V3 q B C] w') (fun w'=>True) 4 [] mixed ⟨aJ.hasK kr,aJ.hasObj m2,aJ.hasObj m1⟩ (fun _=>trivial) (gh (fun _ h=>A0 (ds:=[V3 f i k,V3 l m o]) B9 rfl rfl rfl h.2.1) (gh (fun _ h=>A0 (ds:=[V3 s x y,V3 q B C]) C4 rfl rfl rfl h.2.2) (gn (lw [V3 f i k,V3 l m o] B9 aJ.f8 fun dC aK=>(i8 (qh ⟨aK.hasK kr,aK.hasObj m3,aK.hasObj m2⟩ (fun _=>trivial) (gn (lw [V3 s x y,V3 q B C] C4 aK.f8 fun dD aL=>(i8 (qh ⟨aL.hasK kr,aL.hasObj m4,aL.hasObj m3⟩ (fun _=>trivial) (gd' ?_)))))))))))
  refine l5 (j9 ?_)
  obtain⟨cE,aM,cF,ba⟩:=SH.freezeI aL.f8 (E1.mono (D.le.trans G.le) hrow39) hm40
  cases oi aY
  exact S7 (vs:=[_,_]) results56 ⟨⟨_,_,rfl,B2 B9 (cs:=[V3 f i k,V3 l m o]) (fun j c e=>by rw [Nat.zero_add,ba.mem_obj m2];exact e) (.inl ⟨rfl,rfl,rfl⟩)⟩,⟨_,_,rfl,B2 C4 (cs:=[V3 s x y,V3 q B C]) (fun j c e=>by rw [Nat.zero_add,ba.mem_obj m1];exact e) (.inl ⟨rfl,rfl,rfl⟩)⟩,trivial⟩ ⟨f,i,k,l,m,o,s,x,y,q,B,C,aj,ak,am,cE,rfl,ba.f3.f1.f7.f7.s,(aa.mono ((D.le.trans G.le).trans aM)),(ab.mono ((D.le.trans G.le).trans aM)),(ac.mono ((D.le.trans G.le).trans aM)),cF,(ao.mono aM),ap⟩
 refine j3 (qs ?_)
 have aN:=ad.drew
 refine wh1 (fun w'=>H0 bB w'∧B0 Y [V3 f i k,V3 l m o] w'∧B0 O [V3 s x y,V3 q B C] w') (fun w'=>True) 4 [] mixed ⟨aN.hasK kr,aN.hasObj m1,aN.hasObj m0⟩ (fun _=>trivial) (gh (fun _ h=>A0 (ds:=[V3 f i k,V3 l m o]) B9 rfl rfl rfl h.2.1) (gh (fun _ h=>A0 (ds:=[V3 s x y,V3 q B C]) C4 rfl rfl rfl h.2.2) (gn (lw [V3 f i k,V3 l m o] B9 aN.f8 fun dE aO=>(i8 (qh ⟨aO.hasK kr,aO.hasObj m2,aO.hasObj m1⟩ (fun _=>trivial) (gn (lw [V3 s x y,V3 q B C] C4 aO.f8 fun dF aP=>(i8 (qh ⟨aP.hasK kr,aP.hasObj m3,aP.hasObj m2⟩ (fun _=>trivial) (gd' ?_)))))))))))
 refine l5 (j9 ?_)
 obtain⟨cG,aQ,cH,bb⟩:=SH.freezeI aP.f7 hrow39 hm40
 cases oi aR
 exact S7 (vs:=[_,_]) results56 ⟨⟨_,_,rfl,B2 B9 (cs:=[V3 f i k,V3 l m o]) (fun j c e=>by rw [Nat.zero_add,bb.mem_obj m2];exact e) (.inl ⟨rfl,rfl,rfl⟩)⟩,⟨_,_,rfl,B2 C4 (cs:=[V3 s x y,V3 q B C]) (fun j c e=>by rw [Nat.zero_add,bb.mem_obj m1];exact e) (.inl ⟨rfl,rfl,rfl⟩)⟩,trivial⟩ ⟨f,i,k,l,m,o,s,x,y,q,B,C,bx,bz,bA,cG,rfl,bb.f8.f1.f7.f7.s,(aa.mono aQ),(ab.mono aQ),(ac.mono aQ),cH,(bd.mono aQ),be⟩

theorem a5K {q0:u6}{q1:A5}{r:Bool}(hS:SH w K [] w K [])(ad:b7 D9 K A a b q0.Stops)(ae:b7 L0 K B c d q0.Syns)(af:b7 F6 K C f i q1.Docs)(ag:b7 B8 K D k l q1.Entries)(hm:a0N F q0 q1=some r):
  Calls prog 64 #[.agg #[V3 A a b,V3 B c d],.agg #[V3 C f i,V3 D k l]] w (R_b w K r):=by
 rw [a0N] at hm
 refine ci func64 u ntmps64 (sr (bx u hS fun O bO aA=>?_))
 have aB:SH _ _ _ _ _ [s7 O [V3 A a b,V3 B c d] 26]:=aA
 refine bx u aB fun o bP aC=>?_
 have R:SH _ _ _ _ _ [s7 o [V3 C f i,V3 D k l] 30,_]:=aC
 refine lv (O6 u) (ns (o4 ?_))
 obtain⟨aD,aE,aF⟩:=ob hm
 refine l4 (IV w K [] K [(2,pt O),(3,pt o),(15,.bool aD)] [s7 O [V3 A a b,V3 B c d] 26,s7 o [V3 C f i,V3 D k l] 30]) ?_ ?_
 ·refine j5 (lv (j6 (ds:=[V3 A a b,V3 B c d]) B9 u m1 R u u) ?_)
  obtain⟨bQ,aG,aH⟩:=ob aE
  refine lk c3P (b0N F R.enter0 ad ae aG) ?_
  rintro bR bS ⟨aI,rfl,y⟩
  have G:=(R.c0 y).t2
  refine lv (A4 u) (mv u (bt aH (fun m S=>?_) (fun m S=>?_)))
  ·refine lu m (lu m (lu m (lu m (lv (J6 u m u) (i8 ?_)))))
   cases oi S
   exact qd ⟨aI,u,G.f1,y.le⟩
  refine lg m (c7 L3 u) (lg m (w8 a1b u m0 G u) ?_)
  obtain⟨bT,aJ,aK⟩:=ob S
  refine A3 (wg u u m) u (A2 (vs:=[V3 C f i]) c5A u) (b3W F G.enter0 (af.mono y.le) aJ) ?_
  rintro bU bV ⟨aL,rfl,ah⟩
  refine⟨_,u,?_⟩
  have aM:=(G.c0 ah).t2
  refine lg m (A4 u) (lv (l9 u m u) (i8 ?_))
  cases oi aK
  exact qd ⟨aL,u,aM.f1,(y.le.trans ah.le)⟩
 rintro _ bW ⟨aN,rfl,q,s⟩
 refine l5 (D5 aF u (fun aO T=>?_) (fun aO T=>?_))
 ·refine sr (lv (O6 u) (nq (rr ?_)))
  cases oi T
  exact ey results64 ⟨aN,u,q.s⟩
 refine j3 (qr (lv (j6 (ds:=[V3 A a b,V3 B c d]) B9 u m0 q u u) (fl L3 u a1b m1 q u ?_)))
 obtain⟨bX,aP,aQ⟩:=ob T
 refine lk c3Q (b0P F q.enter0 (ad.mono s) (ae.mono s) (af.mono s) aP) ?_
 rintro bY bZ ⟨ai,aj,ak,am,an,ao,cs68,ca,rfl,U,cb,hrow69,hm70⟩
 have aR:=(q.c0 U).t4
 obtain⟨H,ap,V,aS⟩:=SH.freezeI aR.f1 hrow69 hm70
 refine al C4 aS fun W cc aT=>?_
 have aU:SH _ _ _ _ _ [s7 W [V3 none 0 0,V3 none 0 0] 30,_,_,_,_]:=aT
 refine lw [V3 ai aj ak,V3 am an ao] C4 aU fun cd I=>(O7 (fl M2 u a1e m0 I u (lv (q9 underlying28 u V) (fl M2 u a1e m4 I u (lv (q9 underlying28 u (ag.mono ((s.trans U.le).trans ap))) (lv (R2 u u) (nq (D5 aQ u (fun aV X=>?_) (fun aV X=>?_)))))))))
 ·refine sr (lv (O6 u) (nq (rr ?_)))
  cases oi X
  exact ey results64 ⟨H,u,I.s⟩
 refine j3 (qs (sr (lv (N2 u) (nq ?_))))
 obtain⟨aW,aX,J⟩:=ob X
 refine l4 (IE aW w K [] H [] []) ?_ ?_
 ·refine j7 ?_
  obtain⟨ce,aY,aq⟩:=ob aX
  have aZ:=I.f4.sb (sk (sk (sd (sd (sd sz)))))
  refine qw (fun (Y:Int)=>IW w K [] H [(3,pt o),(5,pt W),(6,V6 Y)] [s7 o [V3 C f i,V3 D k l] 30,s7 W [V3 ai aj ak,V3 am an ao] 30] (i7 Y)) aY ⟨H,u,aZ,kr,I5⟩ ?_
  rintro Y _ cf cg ba ar ⟨bb,rfl,aa,x,ch⟩
  refine o4 (sr (mv u (fl M2 u a1e m1 aa u (lv (q9 underlying28 u (V.mono x)) (lv (u7 u u) (nq (D5 ba u (fun bc ab=>?_) (fun bc ab=>?_))))))))
  ·refine j3 (qs (j7 (o4 (D4 mixed (by kernel_rfl) aa (kv (c7 M2 u) (kh (z6 a1e u m1 u) (km u ?_)))))))
   obtain⟨au,bd,be⟩:=ob ab
   refine ki underlying28 P2 (V.mono x) bd fun bf bg cj bh bi=>?_
   obtain⟨bj,bk,bl,rfl,bm,bn,bo⟩:=bh
   have bp:F1 _ bf bg [sv au.Field,sv au.Term,V3 bj bk bl]:=bi
   refine kh (a1C P2 u bp u) (kv (c7 M2 u) (kh (z6 a1e u m0 u) (km u ?_)))
   obtain⟨aw,bq,br⟩:=ob be
   refine ki underlying28 P2 (b7.mono (((s.trans U.le).trans ap).trans x) ag) bq fun bs bu ck bv bz=>?_
   obtain⟨bA,bB,bC,rfl,bD,bE,bF⟩:=bv
   have bG:F1 _ bs bu [sv aw.Field,sv aw.Term,V3 bA bB bC]:=bz
   refine kh (a1C P2 u bG u) ?_
   obtain⟨cl,bH,bI⟩:=ob br
   refine kc c5B (fun _ _ bJ ax=>(a9u F) bJ.enter0 bm bn (bo.mono ax) bD bE (bF.mono ax) bH) (kv (A4 u) (B4 ?_))
   rintro cm ⟨ay,az,bK⟩
   refine l5 (D5 bI u (fun bL ac=>?_) (fun bL ac=>?_))
   ·refine sr (lv (O6 u) (nq (j9 (i9 (c9 (c9 ?_))))))
    cases oi ac
    cases ar _ u
    refine i9 (c9 ?_)
    cases oi aq
    refine c9 ?_
    cases oi J
    exact ey results64 ⟨ay,u,az.s⟩
   refine j3 (x8 (l5 (j5 (mv u (lv (y7 u u) (av u (i8 ?_)))))))
   cases oi ac
   exact qd ⟨_,u,ay,u,az,(x.trans bK),(u0 _)⟩
  refine y4 (g8 (g8 ?_))
  cases oi ab
  cases ar _ u
  refine l6 ?_
  cases oi aq
  exact L6 ⟨_,bb,u,u,aa.s,x⟩ trivial
 rintro _ cn ⟨cp,bM,rfl,rfl,bN,cq⟩
 have J:=E9 J
 refine qr (lv (r_t u) (nq (j9 ?_)))
 cases oi J
 exact ey results64 ⟨bM,u,bN⟩
end Go.Proofs.YtnloenhmkdpgeaaGreatDoor
