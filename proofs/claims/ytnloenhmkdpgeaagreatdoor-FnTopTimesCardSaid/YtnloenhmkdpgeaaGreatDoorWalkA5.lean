/-
 Walks of the functions. Printed by gen.py.
-/
import Derived.Test.YtnloenhmkdpgeaaGreatDoorWalkA0
import Derived.Test.YtnloenhmkdpgeaaGreatDoorWalkA1
import Derived.Test.YtnloenhmkdpgeaaGreatDoorWalkA2
import Derived.Test.YtnloenhmkdpgeaaGreatDoorWalkA3
set_option linter.unusedVariables false
set_option linter.unusedSectionVars false
set_option maxRecDepth 100000
namespace Go.Proofs.YtnloenhmkdpgeaaGreatDoor
set_option maxHeartbeats 4000000
open Go Go.Fk Go.RowKit Tryz
variable (F:Nat){w:World}{K:F9}{Z:List Nat}{g1 g2 g3:Nat}{A B C D G H I J O R S T:Option Addr}{a b c d f i k l m n o p q s v x y aa ab ac ad ae af ag:Nat}
variable [dr:Dr]

theorem a2j {q0:u6}{q1:r4}{r:(List D3)}(hS:SH w K [] w K [])(ak:b7 D9 K A a b q0.Stops)(S:b7 L0 K B c d q0.Syns)(am:q1.length≤maxLen)(hm:T2 F q0 q1=some r):
  Calls prog 140 #[.agg #[V3 A a b,V3 B c d],sv q1] w fun e w'=>∃a_1 n_2 c_3 K',e= .returned (V3 a_1 n_2 c_3)∧SH w K [] w' K' [tail (V3 a_1 n_2 c_3) 107 2]∧b7 S3 K' a_1 n_2 c_3 r:=by
 rw [T2] at hm
 refine ci func140 u ntmps140 (sr (bx u hS fun T cn an=>?_))
 have ao:SH _ _ _ _ _ [s7 T [V3 A a b,V3 B c d] 26]:=an
 refine lv (r_n u) (nr (b0 S3 underlying104 M3 ao fun ap cp cq l aq W=>(av u (nr (lv (j6 (ds:=[V3 A a b,V3 B c d]) B9 u m1 W u u) (mv u ?_))))))
 obtain⟨cr,ar,au⟩:=ob hm
 refine lk c58 (b2L F W.enter0 (ak.mono l) (S.mono l) am ar) ?_
 rintro ct cu ⟨aw,ax,ay,X,rfl,m,az⟩
 have aA:=(W.c0 m).t3
 refine av u (ns ?_)
 obtain⟨aB,aC,aD⟩:=ob au
 refine l4 (fun E' w'=>∃y C D G,E'=[(5,V3 y C D)]∧SH w K [] w' G [tail (V3 y C D) 107 2]∧M0 X G∧b7 S3 G y C D aB) ?_ ?_
 ·refine j7 ?_
  obtain⟨cv,aE,aF⟩:=ob aC
  have aG:=aA.f1.f2.sb (sk (sk (sd sz)))
  refine qw (fun (Y:(List D3)×(List D3)) E' w'=>∃H I J aa ab ac o,E'=[(2,pt T),(5,V3 H I J),(6,V3 aa ab ac)]∧SH w K [] w' o [s7 T [V3 A a b,V3 B c d] 26,tail (V3 H I J) 107 2]∧M0 X o∧b7 S3 o H I J Y.1∧b7 S3 o aa ab ac Y.2) aE ⟨ap,0,0,aw,ax,ay,X,u,aG,kr,(aq.mono m.le),az⟩ ?_
  rintro Y _ cw cx aH aI ⟨H,I,J,aa,ab,ac,o,rfl,U,i,ad,q⟩
  refine o4 (sr (mv u (lv (q9 underlying104 u q) (lv (E7 u u) (nq (D5 aH u (fun aJ ae=>?_) (fun aJ ae=>?_)))))))
  ·refine j3 (l5 (j7 (sr (lv (j6 (ds:=[V3 A a b,V3 B c d]) B9 u m0 U u u) (mv u ?_)))))
   obtain⟨cy,aK,aL⟩:=ob ae
   refine lk c6a (b4I F U.enter0 (ak.mono ((l.trans m.le).trans i)) (S.mono ((l.trans m.le).trans i)) q aK) ?_
   rintro cz cA ⟨aM,rfl,f,cB⟩
   have af:=(U.c0 f).t2
   refine av u (O7 (mv u (lv (u7 u u) (nq (D5 aL u (fun aN ag=>?_) (fun aN ag=>?_))))))
   ·refine sr (mv u (mv u ?_))
    obtain⟨k,aO,aP⟩:=ob ag
    refine li underlying104 M3 (q.mono f.le) aO fun aQ aR cC aS aT=>?_
    obtain⟨rfl,aU,aV⟩:=aS
    have aW:F1 _ aQ aR [sv k.Text,V6 k.At]:=aT
    refine lv (F3 M3 u af aW u) (lb S3 (.agg #[sv k.Text,V6 k.At]) [sv k.Text,V6 k.At] k underlying104 M3 ⟨u,aU,aV⟩ af fun cD cE cF ah aX aY=>?_)
    obtain⟨cG,aZ,ba⟩:=ob aP
    refine lp underlying104 M3 (ad.mono (f.le.trans ah)) aX aZ aY.f2 fun bb bc bd cH be al bf bg=>(av u (nr (mv u ?_)))
    obtain⟨cI,bh,bi⟩:=ob ba
    refine a9h (t:=S3) wn u underlying104 M3 u u (q.mono ((f.le.trans ah).trans al)) bh fun bj bk bl bm=>(av u (nq (y4 (g8 (l6 ?_)))))
    cases oi bi
    exact qd ⟨_,u,bb,bc,bd,bj,bk,bl,be,u,bg.f2.s,(((i.trans f.le).trans ah).trans al),bf,bm⟩
   refine j3 (qs ?_)
   have ai:=af.drew
   refine wh1 (fun w'=>H0 aM w'∧B0 T [V3 A a b,V3 B c d] w') (fun w'=>True) 15 [] mixed ⟨ai.hasK kr,ai.hasObj m0⟩ (fun _=>trivial) (gt (i5 u) (gt (c7 a3y u) (gh (fun _ h=>B5 a9v u u h.2) (gt (i5 u) ?_))))
   obtain⟨O,bn,bo⟩:=ob ag
   refine gi underlying24 a4h (b7.mono (((l.trans m.le).trans i).trans f.le) S) bn fun bp bq cJ br bs=>?_
   obtain⟨bu,bv,bz,rfl,cK,bA⟩:=br
   have bB:F1 _ bp bq [V3 bu bv bz,sv O.To]:=bs
   refine gt (c7 a6q u) (gh (fun _ h=>a0Y G7 u (bB 1 _ u) h.1) (gt (i5 u) ?_))
   obtain⟨s,bC,bD⟩:=ob bo
   refine gi underlying104 M3 (q.mono f.le) bC fun bE bF cL bG bH=>?_
   obtain⟨rfl,cM,bI⟩:=bG
   have bJ:F1 _ bE bF [sv s.Text,V6 s.At]:=bH
   refine gt (c7 a30 u) (gh (fun _ h=>a0Y E6 u (bJ 1 _ u) h.1) (gt (C3 (cs:=#[sv O.To,V6 s.At]) b9E M3 u (by kernel_rfl)) (gn (lb S3 (.agg #[sv O.To,V6 s.At]) [sv O.To,V6 s.At] (D3.mk O.To s.At) underlying104 M3 ⟨u,bA,bI⟩ ai fun cN cO cP x bK aj=>(i8 (qh ⟨aj.hasK x,aj.hasObj m1⟩ (fun _=>trivial) (gn ?_)))))))
   obtain⟨cQ,bL,bM⟩:=ob bD
   refine lp underlying104 M3 (ad.mono (f.le.trans x)) bK bL aj.f2 fun bN bO bP cR bQ V bR R=>(i8 (qh ⟨R.hasK (x.trans V),R.hasObj m2⟩ (fun _=>trivial) (gt (u9 u) (gd' (l5 (j5 (mv u (fl a3y u a9v m2 R u (mv u ?_)))))))))
   obtain⟨bS,bT,bU⟩:=ob bM
   refine li underlying24 a4h (b7.mono (((((l.trans m.le).trans i).trans f.le).trans x).trans V) S) bT fun bV bW cS bX bY=>?_
   obtain⟨bZ,ca,cb,rfl,cc,cT⟩:=bX
   have cd:F1 _ bV bW [V3 bZ ca cb,sv bS.To]:=bY
   refine fa a0R u (lv (y9 W1 u R (cd 0 _ u)) (lv (q9 underlying23 u cc) ?_))
   obtain⟨cU,ce,cf⟩:=ob bU
   refine a9h (t:=S3) wn u underlying104 M3 u u (q.mono ((f.le.trans x).trans V)) ce fun cg ch cj ck=>(av u (nb ?_))
   cases oi cf
   exact qd ⟨_,u,bN,bO,bP,cg,ch,cj,bQ,u,R.f2.s,(((i.trans f.le).trans x).trans V),bR,ck⟩
  refine y4 (g8 (g8 ?_))
  cases oi ae
  cases aI _ u
  refine l6 ?_
  cases oi aF
  exact qd ⟨H,I,J,o,u,U.s,i,ad⟩
 rintro _ cV ⟨y,C,D,G,rfl,cl,cW,cm⟩
 refine qr (mv u (av u (nq (j9 ?_))))
 cases oi aD
 exact ey results140 ⟨y,C,D,G,u,cl,cm⟩

theorem b2R {q0:u6}{q1:List A1}{q2:r4}{r:(List r4)}(hS:SH w K [] w K [])(aC:b7 D9 K A a b q0.Stops)(aD:b7 L0 K B c d q0.Syns)(ak:b7 F6 K C f i q1)(aE:q2.length≤maxLen)(hm:a2X F q0 q1 q2=some r):
  Calls prog 161 #[.agg #[V3 A a b,V3 B c d],V3 C f i,sv q2] w fun e w'=>∃a_1 n_2 c_3 K',e= .returned (V3 a_1 n_2 c_3)∧SH w K [] w' K' [tail (V3 a_1 n_2 c_3) 9 1]∧b7 D9 K' a_1 n_2 c_3 r:=by
 rw [a2X] at hm
 refine ci func161 u ntmps161 (sr (bx u hS fun k bS aF=>?_))
 have aG:SH _ _ _ _ _ [s7 k [V3 A a b,V3 B c d] 26]:=aF
 refine lv (r_n u) (nr (b0 D9 underlying23 G7 aG fun aH bT ae X aI aJ=>(av u (O7 (lv (N2 u) (nq ?_))))))
 obtain⟨aK,aL,aM⟩:=ob hm
 refine l4 (fun E' w'=>∃D G H I,E'=[(7,V3 D G H)]∧SH w K [] w' I [tail (V3 D G H) 9 1]∧M0 ae I∧b7 D9 I D G H aK) ?_ ?_
 ·refine j7 ?_
  obtain⟨bU,aN,aO⟩:=ob aL
  refine qw (fun (m:(List r4)×Int) E' w'=>∃o q s x,E'=[(1,V3 C f i),(2,sv q2),(3,pt k),(7,V3 o q s),(8,V6 m.2)]∧SH w K [] w' x [s7 k [V3 A a b,V3 B c d] 26,tail (V3 o q s) 9 1]∧M0 ae x∧b7 D9 x o q s m.1∧i7 m.2) aN ⟨aH,0,0,ae,u,aJ.f1,kr,aI,I5⟩ ?_
  rintro m _ bV bW aP aQ ⟨o,q,s,x,rfl,al,y,am,bX⟩
  refine o4 (sr (mv u (mv u (lv (q9 underlying27 u (ak.mono (X.trans y))) (lv (u7 u u) (nq (D5 aP u (fun aR af=>?_) (fun aR af=>?_))))))))
  ·refine j3 (qs (j7 (o4 ?_)))
   have Y:=al.drew
   refine wh1 (fun w'=>H0 x w'∧B0 k [V3 A a b,V3 B c d] w') (fun w'=>True) 9 [] mixed ⟨Y.hasK kr,Y.hasObj m0⟩ (fun _=>trivial) (gh (fun _ h=>A0 (ds:=[V3 A a b,V3 B c d]) B9 u u u h.2) (gt (i5 u) (gt (i5 u) ?_)))
   obtain⟨an,aS,aT⟩:=ob af
   refine gi underlying27 E8 (ak.mono (X.trans y)) aS fun aU aV bY aW aX=>?_
   obtain⟨ao,ap,aq,ar,au,aw,rfl,aY,aZ,ba⟩:=aW
   have bb:F1 _ aU aV [V6 an.Id,V3 ao ap aq,V3 ar au aw]:=aX
   refine gh (fun _ h=>a67 (cs:=[V6 an.Id,V3 ao ap aq,V3 ar au aw]) E8 u bb u h.1) (gt (i5 u) (gn ?_))
   obtain⟨bZ,bc,bd⟩:=ob aT
   refine lk c31 (a7N F Y.enter0 aY aZ ba aE bc) ?_
   rintro ca cb ⟨cc,rfl,l,be⟩
   have aa:=(Y.c0 l).t2
   refine i8 (qh ⟨aa.hasK l.le,aa.hasObj m0⟩ (fun _=>trivial) (gn ?_))
   obtain⟨cd,bf,bg⟩:=ob bd
   refine lk b6s (a2j F aa.enter0 (aC.mono ((X.trans y).trans l.le)) (aD.mono ((X.trans y).trans l.le)) be bf) ?_
   rintro ce cf ⟨bh,bi,bj,ag,rfl,ab,ax⟩
   have ah:=(aa.c0 ab).t3
   refine i8 (qh ⟨ah.hasK (l.le.trans ab.le),ah.hasObj m1⟩ (fun _=>trivial) (gt (u9 u) (gd' (qr (lv (N2 u) (nq ?_))))))
   obtain⟨bk,bl,bm⟩:=ob bg
   refine l4 (fun E' w'=>∃J O R S,E'=[(1,V3 C f i),(2,sv q2),(3,pt k),(7,V3 J O R),(8,V6 m.2)]∧SH w K [] w' S [s7 k [V3 A a b,V3 B c d] 26,tail (V3 J O R) 9 1]∧M0 ag S∧b7 D9 S J O R bk) ?_ ?_
   ·refine j7 ?_
    obtain⟨cg,bn,bo⟩:=ob bl
    have bp:=ah.sb (sd (sk (sk sz)))
    refine qw (fun (ac:(List r4)×Int) E' w'=>∃T U V W,E'=[(1,V3 C f i),(2,sv q2),(3,pt k),(7,V3 T U V),(8,V6 m.2),(9,V3 bh bi bj),(10,V6 ac.2)]∧SH w K [] w' W [s7 k [V3 A a b,V3 B c d] 26,tail (V3 T U V) 9 1]∧M0 ag W∧b7 D9 W T U V ac.1∧i7 ac.2) bn ⟨o,q,s,ag,u,bp,kr,(am.mono (l.le.trans ab.le)),I5⟩ ?_
    rintro ac _ ch cj bq br ⟨T,U,V,W,rfl,ai,ad,ay,ck⟩
    refine o4 (sr (mv u (mv u (lv (q9 underlying104 u (ax.mono ad)) (lv (u7 u u) (nq (D5 bq u (fun bs aj=>?_) (fun bs aj=>?_))))))))
    ·refine j3 (qs (j7 (j5 (mv u (mv u (mv u ?_))))))
     obtain⟨az,bu,bv⟩:=ob aj
     refine li underlying104 M3 (ax.mono ad) bu fun bz bA cl bB bC=>?_
     obtain⟨rfl,bD,cm⟩:=bB
     have bE:F1 _ bz bA [sv az.Text,V6 az.At]:=bC
     refine fa a3Z u (lv (y9 G7 u ai (bE 0 _ u)) ?_)
     obtain⟨cn,bF,bG⟩:=ob bv
     have aA:=ai.f1
     refine lk c30 (a9F F aA.e1 ay bD bF) ?_
     rintro cp cq ⟨bH,bI,bJ,bK,rfl,aB,bL⟩
     have bM:=(aA.c1 aB).t2
     refine av u (nb (l5 (j5 (mv u (lv (y7 u u) (av u (i8 ?_)))))))
     cases oi bG
     exact qd ⟨_,u,bH,bI,bJ,bK,u,bM.f1,(ad.trans aB.le),bL,(u0 _)⟩
    refine y4 (g8 (g8 ?_))
    cases oi aj
    cases br _ u
    refine l6 ?_
    cases oi bo
    exact qd ⟨T,U,V,W,u,ai,ad,ay⟩
   rintro _ cr ⟨J,O,R,S,rfl,bN,bO,bP⟩
   refine x8 (l5 (j5 (mv u (lv (y7 u u) (av u (i8 ?_))))))
   cases oi bm
   exact qd ⟨_,u,J,O,R,S,u,bN,(((y.trans l.le).trans ab.le).trans bO),bP,(u0 _)⟩
  refine y4 (g8 (g8 ?_))
  cases oi af
  cases aQ _ u
  refine l6 ?_
  cases oi aO
  exact qd ⟨o,q,s,x,u,al.s,y,am⟩
 rintro _ ct ⟨D,G,H,I,rfl,bQ,cu,bR⟩
 refine qr (mv u (av u (nq (j9 ?_))))
 cases oi aM
 exact ey results161 ⟨D,G,H,I,u,bQ,bR⟩

theorem b3X {q0:u6}{q1:A1}{q2:r4}{q3:r4}{r:(List Int)}(hS:SH w K [] w K [])(ai:b7 D9 K A a b q0.Stops)(aj:b7 L0 K B c d q0.Syns)(ak:i7 q1.Id)(al:b7 K5 K C f i q1.Fields)(am:b7 N0 K D k l q1.Nums)(an:q2.length≤maxLen)(bu:q3.length≤maxLen)(hm:a3Q F q0 q1 q2 q3=some r):
  Calls prog 200 #[.agg #[V3 A a b,V3 B c d],.agg #[V6 q1.Id,V3 C f i,V3 D k l],sv q2,sv q3] w fun e w'=>∃a_1 n_2 c_3 K',e= .returned (V3 a_1 n_2 c_3)∧SH w K [] w' K' [tail (V3 a_1 n_2 c_3) 3 1]∧b7 D6 K' a_1 n_2 c_3 r:=by
 rw [a3Q] at hm
 refine ci func200 u ntmps200 (sr (bx u hS fun ae bv ao=>?_))
 have ap:SH _ _ _ _ _ [s7 ae [V3 A a b,V3 B c d] 26]:=ao
 refine bx u ap fun af bz aq=>?_
 have ar:SH _ _ _ _ _ [s7 af [V6 q1.Id,V3 C f i,V3 D k l] 44,_]:=aq
 refine lv (r_n u) (nr (b0 D6 underlying46 E6 ar fun au bA aw U ax ay=>(av u (ns ?_))))
 have G:=ay.drew
 refine wh1 (fun w'=>H0 aw w'∧B0 ae [V3 A a b,V3 B c d] w'∧B0 af [V6 q1.Id,V3 C f i,V3 D k l] w') (fun w'=>True) 6 [] mixed ⟨G.hasK kr,G.hasObj m2,G.hasObj m1⟩ (fun _=>trivial) (gh (fun _ h=>A0 (ds:=[V3 A a b,V3 B c d]) B9 u u u h.2.1) (gh (fun _ h=>A0 (ds:=[V6 q1.Id,V3 C f i,V3 D k l]) E8 u u u h.2.2) (gt (i5 u) (gn ?_))))
 obtain⟨bB,az,aA⟩:=ob hm
 refine lk c31 (a7N F G.enter0 ak (al.mono U) (am.mono U) an az) ?_
 rintro bC bD ⟨bE,rfl,m,aB⟩
 have H:=(G.c0 m).t3
 refine i8 (qh ⟨H.hasK m.le,H.hasObj m2,H.hasObj m1⟩ (fun _=>trivial) (gn ?_))
 obtain⟨bF,aC,aD⟩:=ob aA
 refine lk b6s (a2j F H.enter0 (ai.mono (U.trans m.le)) (aj.mono (U.trans m.le)) aB aC) ?_
 rintro bG bH ⟨aE,aF,aG,X,rfl,Y,aa⟩
 have V:=(H.c0 Y).t4
 refine i8 (qh ⟨V.hasK (m.le.trans Y.le),V.hasObj m3,V.hasObj m2⟩ (fun _=>trivial) (gt (u9 u) (gd' (qs (sr (lv (N2 u) (nq ?_)))))))
 obtain⟨aH,aI,aJ⟩:=ob aD
 refine l4 (fun E' w'=>∃I J O R,E'=[(9,V3 I J O)]∧SH w K [] w' R [tail (V3 I J O) 3 1]∧M0 X R∧b7 D6 R I J O aH) ?_ ?_
 ·refine j7 ?_
  obtain⟨bI,aK,aL⟩:=ob aI
  have aM:=V.sb (sd (sk (sd (sd sz))))
  refine qw (fun (W:(List Int)×Int) E' w'=>∃o q s x,E'=[(3,sv q3),(9,V3 o q s),(10,V3 aE aF aG),(11,V6 W.2)]∧SH w K [] w' x [tail (V3 o q s) 3 1]∧M0 X x∧b7 D6 x o q s W.1∧i7 W.2) aK ⟨au,0,0,X,u,aM,kr,(ax.mono (m.le.trans Y.le)),I5⟩ ?_
  rintro W _ bJ bK aN aO ⟨o,q,s,x,rfl,S,y,ab,bL⟩
  refine o4 (sr (mv u (mv u (lv (q9 underlying104 u (aa.mono y)) (lv (u7 u u) (nq (D5 aN u (fun aP ac=>?_) (fun aP ac=>?_))))))))
  ·refine j3 (qs (j7 (sr (mv u (mv u ?_)))))
   obtain⟨ag,aQ,aR⟩:=ob ac
   refine li underlying104 M3 (aa.mono y) aQ fun aS aT bM aU aV=>?_
   obtain⟨rfl,bN,bO⟩:=aU
   have aW:F1 _ aS aT [sv ag.Text,V6 ag.At]:=aV
   refine fa a3Z u (lv (y9 G7 u S (aW 0 _ u)) (mv u (lv (J8 u u) (nq (D5 aR u (fun aX ad=>?_) (fun aX ad=>?_))))))
   ·refine j5 (mv u (mv u (mv u ?_)))
    obtain⟨T,aY,aZ⟩:=ob ad
    refine li underlying104 M3 (aa.mono y) aY fun ba bb bP bc bd=>?_
    obtain⟨rfl,bQ,be⟩:=bc
    have bf:F1 _ ba bb [sv T.Text,V6 T.At]:=bd
    refine fa a30 u (lv (y9 E6 u S (bf 1 _ u)) (lb D6 (V6 T.At) [V6 T.At] T.At underlying46 E6 ⟨u,be⟩ S fun bR bS bT ah bg bh=>?_))
    obtain⟨bU,bi,bj⟩:=ob aZ
    refine lp underlying46 E6 (ab.mono ah) bg bi bh.f1 fun bk bl bm bV bn bo bp bq=>(av u (nb (l5 (j5 (mv u (lv (y7 u u) (av u (i8 ?_))))))))
    cases oi bj
    exact qd ⟨_,u,bk,bl,bm,bn,u,bq.s,((y.trans ah).trans bo),bp,(u0 _)⟩
   refine j3 (x8 (l5 (j5 (mv u (lv (y7 u u) (av u (i8 ?_)))))))
   cases oi ad
   exact qd ⟨_,u,o,q,s,x,u,S,y,ab,(u0 _)⟩
  refine y4 (g8 (g8 ?_))
  cases oi ac
  cases aO _ u
  refine l6 ?_
  cases oi aL
  exact qd ⟨o,q,s,x,u,S,y,ab⟩
 rintro _ bW ⟨I,J,O,R,rfl,br,bX,bs⟩
 refine qr (mv u (av u (nq (j9 ?_))))
 cases oi aJ
 exact ey results200 ⟨I,J,O,R,u,br,bs⟩

theorem b2P {q0:u6}{q1:List A1}{q2:r4}{q3:r4}{r:C0}(hS:SH w K [] w K [])(aG:b7 D9 K A a b q0.Stops)(aH:b7 L0 K B c d q0.Syns)(aa:b7 F6 K C f i q1)(ao:q2.length≤maxLen)(ap:q3.length≤maxLen)(hm:a2V F q0 q1 q2 q3=some r):
  Calls prog 162 #[.agg #[V3 A a b,V3 B c d],V3 C f i,sv q2,sv q3] w fun e w'=>∃a_3 n_4 c_5 K',e= .returned (.agg #[sv r.Field,sv r.Term,V3 a_3 n_4 c_5])∧SH w K [] w' K' [tail (V3 a_3 n_4 c_5) 48 2]∧r.Field.length≤maxLen∧r.Term.length≤maxLen∧b7 S2 K' a_3 n_4 c_5 r.Posts:=by
 rw [a2V] at hm
 refine ci func162 u ntmps162 (sr (bx u hS fun T bL aI=>?_))
 have aJ:SH _ _ _ _ _ [s7 T [V3 A a b,V3 B c d] 26]:=aI
 refine al P2 aJ fun J bM aK=>?_
 have aL:SH _ _ _ _ _ [s7 J [sv [],sv [],V3 none 0 0] 99,_]:=aK
 refine nr (mv u (mv u (lv (C3 (cs:=#[sv q2,sv q3,V3 none 0 0]) c6N P2 u (by kernel_rfl)) (al P2 aL fun H bN aM=>?_))))
 have aN:SH _ _ _ _ _ [s7 H [sv [],sv [],V3 none 0 0] 99,_,_]:=aM
 refine lw [sv q2,sv q3,V3 none 0 0] P2 aN fun bO aO=>(O7 (lv (N2 u) (nq ?_)))
 obtain⟨l,aP,aQ⟩:=ob hm
 refine l4 (fun E' w'=>∃o q s O,E'=[(8,pt J),(9,pt H)]∧SH w K [] w' O [s7 J [sv [],sv [],V3 none 0 0] 99,s7 H [sv l.Field,sv l.Term,V3 o q s] 99,tail (V3 o q s) 48 2]∧M0 K O∧l.Field.length≤maxLen∧l.Term.length≤maxLen∧b7 S2 O o q s l.Posts) ?_ ?_
 ·refine j7 ?_
  obtain⟨bP,aR,aS⟩:=ob aP
  have aT:=aO.nil 48 2
  refine qw (fun (k:Int×C0) E' w'=>∃x y D I,E'=[(1,V3 C f i),(2,sv q2),(3,sv q3),(4,pt T),(8,pt J),(9,pt H),(10,V6 k.1)]∧SH w K [] w' I [s7 T [V3 A a b,V3 B c d] 26,s7 J [sv [],sv [],V3 none 0 0] 99,s7 H [sv k.2.Field,sv k.2.Term,V3 x y D] 99,tail (V3 x y D) 48 2]∧M0 K I∧i7 k.1∧k.2.Field.length≤maxLen∧k.2.Term.length≤maxLen∧b7 S2 I x y D k.2.Posts) aR ⟨none,0,0,K,u,aT.f1.f2.f3,kr,I5,ao,ap,(b7.nil _ _)⟩ ?_
  rintro k _ bQ bR aU aV ⟨x,y,D,I,rfl,aq,m,bS,ab,ac,ad⟩
  refine o4 (sr (mv u (mv u (lv (q9 underlying27 u (aa.mono m)) (lv (u7 u u) (nq (D5 aU u (fun aW ae=>?_) (fun aW ae=>?_))))))))
  ·refine j3 (qs (j7 (o4 ?_)))
   have U:=aq.drew
   refine wh1 (fun w'=>H0 I w'∧B0 T [V3 A a b,V3 B c d] w') (fun w'=>True) 9 [] mixed ⟨U.hasK kr,U.hasObj m0⟩ (fun _=>trivial) (gh (fun _ h=>A0 (ds:=[V3 A a b,V3 B c d]) B9 u u u h.2) (gt (i5 u) (gt (i5 u) ?_)))
   obtain⟨ar,aX,aY⟩:=ob ae
   refine gi underlying27 E8 (aa.mono m) aX fun aZ ba bT bb bc=>?_
   obtain⟨au,aw,ax,ay,az,aA,rfl,bd,be,bf⟩:=bb
   have bg:F1 _ aZ ba [V6 ar.Id,V3 au aw ax,V3 ay az aA]:=bc
   refine gh (fun _ h=>a67 (cs:=[V6 ar.Id,V3 au aw ax,V3 ay az aA]) E8 u bg u h.1) (gt (i5 u) (gt (i5 u) (gn ?_)))
   obtain⟨bh,bi,bj⟩:=ob aY
   refine lk c6h (b3X F U.enter0 (aG.mono m) (aH.mono m) bd be bf ao ap bi) ?_
   rintro bU bV ⟨V,W,X,aB,rfl,G,aC⟩
   have Y:=(U.c0 G).t5
   refine i8 (qh ⟨Y.hasK G.le,Y.hasObj m1⟩ (fun _=>trivial) (gt (u9 u) (gd' (qr (mv u (lv (q9 underlying46 u aC) (lv (E7 u u) (nq (D5 bj u (fun bk af=>?_) (fun bk af=>?_))))))))))
   ·have ag:=Y.drew
    refine wh1 (fun w'=>H0 aB w') (fun w'=>B0 H [sv k.2.Field,sv k.2.Term,V3 x y D] w') 12 [(1,10),(1,11),(1,12),(10,11),(10,12),(11,12)] mixed (ag.hasK kr) (fun _=>ag.hasObj (.tail _ (.tail _ (.tail _ (.head _))))) (gt (c7 Y0 u) (gf (fun _ h=>B5 a5B u u h) (gt (i5 u) (gt (i5 u) ?_))))
    obtain⟨R,bl,bm⟩:=ob af
    refine gi underlying27 E8 (aa.mono (m.trans G.le)) bl fun bn bo bW bp bq=>?_
    obtain⟨br,bs,bu,bv,bz,bA,rfl,bB,bX,bY⟩:=bp
    have bC:F1 _ bn bo [V6 R.Id,V3 br bs bu,V3 bv bz bA]:=bq
    refine gt (c7 P6 u) (gh (fun _ h=>a0Y E6 u (bC 0 _ u) h) (gt (i5 u) (gt (C3 (cs:=#[V6 R.Id,V3 V W X]) c5i a02 u (by kernel_rfl)) (gn (lb S2 (.agg #[V6 R.Id,V3 V W X]) [V6 R.Id,V3 V W X] (F7.mk R.Id bh) underlying37 a02 ⟨V,W,X,u,bB,aC⟩ ag fun bZ ca cb S bD ah=>(i8 (qh (ah.hasK S) (fun _=>ah.hasObj (.tail _ (.tail _ (.tail _ (.tail _ (.head _)))))) (gn ?_))))))))
    obtain⟨cc,bE,bF⟩:=ob bm
    refine lp underlying37 a02 (ad.mono (G.le.trans S)) bD bE ah.f5 fun ai aj ak cd bG am bH an=>(i8 (qh (an.hasK (S.trans am)) (fun _=>an.hasObj (.tail _ (.tail _ (.tail _ (.tail _ (.tail _ (.head _))))))) (gt (c7 Y0 u) (gn (ls [sv k.2.Field,sv k.2.Term,V3 ai aj ak] (V3 ai aj ak) a5B an.f5 fun ce aD=>(i8 (qh (aD.hasK (S.trans am)) (fun h=>by cases h) (gd' (x8 (l5 (j5 ?_)))))))))))
    refine mv u (lv (y7 u u) (av u (i8 ?_)))
    cases oi bF
    exact qd ⟨_,u,ai,aj,ak,bG,u,aD.f1.f1.f5.f5.s,(((m.trans G.le).trans S).trans am),(u0 _),ab,ac,bH⟩
   refine j3 (x8 (l5 (j5 (mv u (lv (y7 u u) (av u (i8 ?_)))))))
   cases oi af
   exact qd ⟨_,u,x,y,D,aB,u,Y.s,(m.trans G.le),(u0 _),ab,ac,(ad.mono G.le)⟩
  refine y4 (g8 (g8 ?_))
  cases oi ae
  cases aV _ u
  refine l6 ?_
  cases oi aS
  exact qd ⟨x,y,D,I,u,aq.s,m,ab,ac,ad⟩
 rintro _ cf ⟨o,q,s,O,rfl,aE,cg,bI,bJ,bK⟩
 refine qr (lv (j6 (ds:=[sv l.Field,sv l.Term,V3 o q s]) P2 u m1 aE u u) (lw [sv l.Field,sv l.Term,V3 o q s] P2 aE fun ch aF=>(nq (j9 ?_))))
 cases oi aQ
 exact ez results162 P2 aF m0 ⟨o,q,s,O,u,aF.s,bI,bJ,bK⟩

theorem b0P {q0:u6}{q1:List A1}{r:A5}(hS:SH w K [] w K [])(bH:b7 D9 K A a b q0.Stops)(bI:b7 L0 K B c d q0.Syns)(aw:b7 F6 K C f i q1)(hm:a36 F q0 q1=some r):
  Calls prog 120 #[.agg #[V3 A a b,V3 B c d],V3 C f i] w fun e w'=>∃a_1 n_2 c_3 a_5 n_6 c_7 cs_8 K',e= .returned (.agg #[V3 a_1 n_2 c_3,V3 a_5 n_6 c_7])∧SH w K [] w' K' [tail (V3 a_1 n_2 c_3) 44 3,Z5 (V3 a_5 n_6 c_7) cs_8 99 3]∧b7 F6 K' a_1 n_2 c_3 r.Docs∧E1 true B8 K' cs_8 r.Entries∧n_6=r.Entries.length:=by
 rw [a36] at hm
 refine ci func120 u ntmps120 (sr (bx u hS fun o ee cc=>?_))
 have cd:SH _ _ _ _ _ [s7 o [V3 A a b,V3 B c d] 26]:=cc
 refine al C4 cd fun l ef ce=>?_
 have cf:SH _ _ _ _ _ [s7 l [V3 none 0 0,V3 none 0 0] 30,_]:=ce
 refine nr (lv (C3 (cs:=#[V3 none 0 0,V3 none 0 0]) c5h C4 u (by kernel_rfl)) (al C4 cf fun k eg cg=>?_))
 have ch:SH _ _ _ _ _ [s7 k [V3 none 0 0,V3 none 0 0] 30,_,_]:=cg
 refine lw [V3 none 0 0,V3 none 0 0] C4 ch fun eh bJ=>(nr (mv u ?_))
 obtain⟨ei,cj,ck⟩:=ob hm
 refine lk c5X (b2Q F bJ.enter0 aw cj) ?_
 rintro ej ek ⟨aW,aX,aY,aZ,rfl,q,ba⟩
 have cl:=(bJ.c0 q).t4
 refine av u (O7 (lv (N2 u) (nq ?_)))
 obtain⟨bb,cm,cn⟩:=ob ck
 refine l4 (fun E' w'=>∃ax ay az aL aA aM cs53 x,E'=[(1,V3 C f i),(4,pt l),(5,pt k)]∧SH w K [] w' x [s7 l [V3 none 0 0,V3 none 0 0] 30,s7 k [V3 ax ay az,V3 aL aA aM] 30,Z5 (V3 aL aA aM) cs53 99 3,tail (V3 ax ay az) 44 3]∧M0 aZ x∧b7 F6 x ax ay az bb.Docs∧E1 true B8 x cs53 bb.Entries∧aA=bb.Entries.length) ?_ ?_
 ·refine j7 ?_
  obtain⟨el,cp,cq⟩:=ob cm
  have cr:=SH.rowNil cl 99 3
  have ct:=cr.nil 44 3
  have cu:=ct.f1.f3.f4.f5.sb (sk (sk (sk (sk (sk (sd sz))))))
  refine qw (fun (y:Int×A5) E' w'=>∃ac ad ae aB af aC cs72 S,E'=[(1,V3 C f i),(2,pt o),(4,pt l),(5,pt k),(6,V3 aW aX aY),(7,V6 y.1)]∧SH w K [] w' S [s7 o [V3 A a b,V3 B c d] 26,s7 l [V3 none 0 0,V3 none 0 0] 30,s7 k [V3 ac ad ae,V3 aB af aC] 30,Z5 (V3 aB af aC) cs72 99 3,tail (V3 ac ad ae) 44 3]∧M0 aZ S∧i7 y.1∧b7 F6 S ac ad ae y.2.Docs∧E1 true B8 S cs72 y.2.Entries∧af=y.2.Entries.length) cp ⟨none,0,0,none,0,0,[],aZ,u,cu,kr,I5,(b7.nil _ _),(E1.nil B8 _),u⟩ ?_
  rintro y _ em en cv cw ⟨ac,ad,ae,aB,af,aC,cs72,S,rfl,bK,m,eo,bL,hrow73,hm74⟩
  refine o4 (sr (mv u (mv u (lv (q9 underlying23 u (ba.mono m)) (lv (u7 u u) (nq (D5 cv u (fun cx bc=>?_) (fun cx bc=>?_))))))))
  ·refine j3 (qs (j7 (o4 ?_)))
   have aN:=bK.drew
   refine wh1 (fun w'=>H0 S w'∧B0 o [V3 A a b,V3 B c d] w') (fun w'=>True) 8 [] mixed ⟨aN.hasK kr,aN.hasObj m0⟩ (fun _=>trivial) (gh (fun _ h=>A0 (ds:=[V3 A a b,V3 B c d]) B9 u u u h.2) (gt (i5 u) (gt (i5 u) (gt (i5 u) ?_))))
   obtain⟨cy,cz,cA⟩:=ob bc
   refine gi underlying23 G7 (ba.mono m) cz fun cB cC ep cD cE=>?_
   obtain⟨rfl,cF⟩:=cD
   have cG:F1 _ cB cC [sv cy]:=cE
   refine gh (fun _ h=>a0Y G7 u (cG 0 _ u) h.1) (gn ?_)
   obtain⟨eq,cH,cI⟩:=ob cA
   refine lk c5Y (b2R F aN.enter0 (bH.mono (q.le.trans m)) (bI.mono (q.le.trans m)) (aw.mono (q.le.trans m)) cF cH) ?_
   rintro es et ⟨cJ,cK,cL,bd,rfl,s,bM⟩
   have be:=(aN.c0 s).t6
   refine i8 (qh ⟨be.hasK s.le,be.hasObj m1⟩ (fun _=>trivial) (gt (u9 u) (gd' (qr (lv (N2 u) (nq ?_))))))
   obtain⟨bf,cM,cN⟩:=ob cI
   refine l4 (fun E' w'=>∃aD aE aF aO aG aP cs125 ag,E'=[(1,V3 C f i),(2,pt o),(4,pt l),(5,pt k),(6,V3 aW aX aY),(7,V6 y.1)]∧SH w K [] w' ag [s7 o [V3 A a b,V3 B c d] 26,s7 l [V3 none 0 0,V3 none 0 0] 30,s7 k [V3 aD aE aF,V3 aO aG aP] 30,Z5 (V3 aO aG aP) cs125 99 3,tail (V3 aD aE aF) 44 3]∧M0 bd ag∧b7 F6 ag aD aE aF bf.Docs∧E1 true B8 ag cs125 bf.Entries∧aG=bf.Entries.length) ?_ ?_
   ·refine j7 ?_
    obtain⟨eu,cO,cP⟩:=ob cM
    have cQ:=be.sb (sd (sk (sk (sk (sk (sk sz))))))
    refine qw (fun (ah:Int×A5) E' w'=>∃D G H aH ai aI cs144 T,E'=[(1,V3 C f i),(2,pt o),(4,pt l),(5,pt k),(6,V3 aW aX aY),(7,V6 y.1),(8,V3 cJ cK cL),(9,V6 ah.1)]∧SH w K [] w' T [s7 o [V3 A a b,V3 B c d] 26,s7 l [V3 none 0 0,V3 none 0 0] 30,s7 k [V3 D G H,V3 aH ai aI] 30,Z5 (V3 aH ai aI) cs144 99 3,tail (V3 D G H) 44 3]∧M0 bd T∧i7 ah.1∧b7 F6 T D G H ah.2.Docs∧E1 true B8 T cs144 ah.2.Entries∧ai=ah.2.Entries.length) cO ⟨ac,ad,ae,aB,af,aC,cs72,bd,u,cQ,kr,I5,(bL.mono s.le),(E1.mono s.le hrow73),hm74⟩ ?_
    rintro ah _ ev ew cR cS ⟨D,G,H,aH,ai,aI,cs144,T,rfl,bN,I,ex,bO,hrow145,hm146⟩
    refine o4 (sr (mv u (mv u (lv (q9 underlying23 u (bM.mono I)) (lv (u7 u u) (nq (D5 cR u (fun cT bg=>?_) (fun cT bg=>?_))))))))
    ·refine j3 (qs (j7 ?_))
     have aJ:=bN.drew
     refine wh1 (fun w'=>H0 T w'∧B0 o [V3 A a b,V3 B c d] w') (fun w'=>B0 k [V3 D G H,V3 aH ai aI] w') 16 [(1,14),(1,15),(1,16),(14,15),(14,16),(15,16)] mixed ⟨aJ.hasK kr,aJ.hasObj m0⟩ (fun _=>aJ.hasObj (.tail _ (.tail _ (.head _)))) (gt (c7 M2 u) (gf (fun _ h=>B5 a1e u u h) (gh (fun _ h=>A0 (ds:=[V3 A a b,V3 B c d]) B9 u u u h.2) (gt (i5 u) (gt (i5 u) (gt (i5 u) ?_))))))
     obtain⟨cU,cV,cW⟩:=ob bg
     refine gi underlying23 G7 (ba.mono ((m.trans s.le).trans I)) cV fun cX cY eA cZ da=>?_
     obtain⟨rfl,db⟩:=cZ
     have dc:F1 _ cX cY [sv cU]:=da
     refine gh (fun _ h=>a0Y G7 u (dc 0 _ u) h.1) (gt (i5 u) (gt (i5 u) ?_))
     obtain⟨dd,de,df⟩:=ob cW
     refine gi underlying23 G7 (bM.mono I) de fun dg dh eB di dj=>?_
     obtain⟨rfl,dk⟩:=di
     have dl:F1 _ dg dh [sv dd]:=dj
     refine gh (fun _ h=>a0Y G7 u (dl 0 _ u) h.1) (gn ?_)
     obtain⟨aK,dm,dn⟩:=ob df
     refine lk c5Z (b2P F aJ.enter0 (b7.mono (((q.le.trans m).trans s.le).trans I) bH) (b7.mono (((q.le.trans m).trans s.le).trans I) bI) (b7.mono (((q.le.trans m).trans s.le).trans I) aw) db dk dm) ?_
     rintro eC eD ⟨bh,bi,bj,eE,rfl,J,dp,dq,dr⟩
     have aQ:=(aJ.c0 J).t6
     refine i8 (qh ⟨aQ.hasK J.le,aQ.hasObj m1⟩ (fun _=>aQ.hasObj (.tail _ (.tail _ (.tail _ (.head _))))) (gn (lb B8 (.agg #[sv aK.Field,sv aK.Term,V3 bh bi bj]) [sv aK.Field,sv aK.Term,V3 bh bi bj] aK underlying28 P2 ⟨bh,bi,bj,u,dp,dq,dr⟩ aQ fun eF eG dt aj du aR=>(i8 (qh ⟨aR.hasK (J.le.trans aj),aR.hasObj m2⟩ (fun _=>aR.hasObj (.tail _ (.tail _ (.tail _ (.tail _ (.head _)))))) (gn ?_))))))
     obtain⟨eH,dv,dw⟩:=ob dn
     refine b4s (t:=B8) wn u underlying28 P2 u u u u (E1.mono (J.le.trans aj) hrow145) hm146 du dv aR.f5 fun bk bl bm cs202 eI hrow204 hm205 aS=>(i8 (qh ⟨aS.hasK (J.le.trans aj),aS.hasObj m3⟩ (fun _=>aS.hasObj (.tail _ (.tail _ (.tail _ (.tail _ (.tail _ (.head _))))))) (gt (c7 M2 u) (gn (ls [V3 D G H,V3 bk bl bm] (V3 bk bl bm) a1e aS.f5 fun eJ bn=>(i8 (qh ⟨bn.hasK (J.le.trans aj),bn.hasObj m4⟩ (fun h=>by cases h) (gd' (x8 (l5 (j5 ?_)))))))))))
     refine mv u (lv (y7 u u) (av u (i8 ?_)))
     cases oi dw
     exact qd ⟨_,u,D,G,H,bk,bl,bm,cs202,dt,u,bn.f6.f2.f2.f6.f6.s,((I.trans J.le).trans aj),(u0 _),(bO.mono (J.le.trans aj)),hrow204,hm205⟩
    refine y4 (g8 (g8 ?_))
    cases oi bg
    cases cS _ u
    refine l6 ?_
    cases oi cP
    exact qd ⟨D,G,H,aH,ai,aI,cs144,T,u,bN,I,bO,hrow145,hm146⟩
   rintro _ eK ⟨aD,aE,aF,aO,aG,aP,cs125,ag,rfl,dx,dy,dz,hrow126,hm127⟩
   refine x8 (l5 (j5 (mv u (lv (y7 u u) (av u (i8 ?_))))))
   cases oi cN
   exact qd ⟨_,u,aD,aE,aF,aO,aG,aP,cs125,ag,u,dx,((m.trans s.le).trans dy),(u0 _),dz,hrow126,hm127⟩
  refine y4 (g8 (g8 ?_))
  cases oi bc
  cases cw _ u
  refine l6 ?_
  cases oi cq
  exact qd ⟨ac,ad,ae,aB,af,aC,cs72,S,u,bK.s,m,bL,hrow73,hm74⟩
 rintro _ eL ⟨ax,ay,az,aL,aA,aM,cs53,x,rfl,dA,bP,dB,hrow54,hm55⟩
 refine qs (sr (lv (N2 u) (nq ?_)))
 obtain⟨bo,dC,dD⟩:=ob cn
 refine l4 (fun E' w'=>∃U V W ak X am cs233 an,E'=[(4,pt l),(5,pt k)]∧SH w K [] w' an [s7 l [V3 none 0 0,V3 none 0 0] 30,s7 k [V3 U V W,V3 ak X am] 30,Z5 (V3 ak X am) cs233 99 3,tail (V3 U V W) 44 3]∧M0 x an∧b7 F6 an U V W bo.Docs∧E1 true B8 an cs233 bo.Entries∧X=bo.Entries.length) ?_ ?_
 ·refine j7 ?_
  obtain⟨eM,dE,dF⟩:=ob dC
  refine qw (fun (ao:Int×A5) E' w'=>∃ap aq ar Y O aa cs252 ab,E'=[(1,V3 C f i),(4,pt l),(5,pt k),(10,V6 ao.1)]∧SH w K [] w' ab [s7 l [V3 none 0 0,V3 none 0 0] 30,s7 k [V3 ap aq ar,V3 Y O aa] 30,Z5 (V3 Y O aa) cs252 99 3,tail (V3 ap aq ar) 44 3]∧M0 x ab∧i7 ao.1∧b7 F6 ab ap aq ar ao.2.Docs∧E1 true B8 ab cs252 ao.2.Entries∧O=ao.2.Entries.length) dE ⟨ax,ay,az,aL,aA,aM,cs53,x,u,dA,kr,I5,dB,hrow54,hm55⟩ ?_
  rintro ao _ eN eO dG dH ⟨ap,aq,ar,Y,O,aa,cs252,ab,rfl,bQ,aT,eP,bR,hrow253,hm254⟩
  refine o4 (sr (mv u (mv u (lv (q9 underlying27 u (aw.mono ((q.le.trans bP).trans aT))) (lv (u7 u u) (nq (D5 dG u (fun dI bp=>?_) (fun dI bp=>?_))))))))
  ·refine j3 (qs (j7 ?_))
   have aU:=bQ.drew
   refine wh1 (fun w'=>H0 ab w') (fun w'=>B0 k [V3 ap aq ar,V3 Y O aa] w') 10 [(1,8),(1,9),(1,10),(8,9),(8,10),(9,10)] mixed (aU.hasK kr) (fun _=>aU.hasObj (.tail _ (.head _))) (gt (c7 L3 u) (gf (fun _ h=>B5 a1b u u h) (gt (i5 u) (gt (i5 u) ?_))))
   obtain⟨bS,dJ,dK⟩:=ob bp
   refine gi underlying27 E8 (aw.mono ((q.le.trans bP).trans aT)) dJ fun dL dM eQ dN dO=>?_
   obtain⟨bT,bU,bV,bW,bX,bY,rfl,dP,dQ,dR⟩:=dN
   have dS:F1 _ dL dM [V6 bS.Id,V3 bT bU bV,V3 bW bX bY]:=dO
   refine gh (fun _ h=>a67 (cs:=[V6 bS.Id,V3 bT bU bV,V3 bW bX bY]) E8 u dS u h) (gn ?_)
   obtain⟨bq,dT,dU⟩:=ob dK
   refine lk c50 (b0O F aU.enter0 dP dQ dR dT) ?_
   rintro eR eS ⟨br,bs,bu,bv,bz,bA,eT,rfl,R,dV,dW,dX⟩
   have bB:=(aU.c0 R).t6
   refine i8 (qh (bB.hasK R.le) (fun _=>bB.hasObj (.tail _ (.tail _ (.tail _ (.head _))))) (gn (lb F6 (.agg #[V6 bq.Id,V3 br bs bu,V3 bv bz bA]) [V6 bq.Id,V3 br bs bu,V3 bv bz bA] bq underlying27 E8 ⟨br,bs,bu,bv,bz,bA,u,dV,dW,dX⟩ bB fun eU eV eW au dY bC=>(i8 (qh (bC.hasK (R.le.trans au)) (fun _=>bC.hasObj (.tail _ (.tail _ (.tail _ (.tail _ (.head _)))))) (gn ?_))))))
   obtain⟨eX,dZ,ea⟩:=ob dU
   refine lp underlying27 E8 (bR.mono (R.le.trans au)) dY dZ bC.f6 fun bD bE bF eY eb aV ec bG=>(i8 (qh (bG.hasK ((R.le.trans au).trans aV)) (fun _=>bG.hasObj (.tail _ (.tail _ (.tail _ (.tail _ (.tail _ (.head _))))))) (gt (c7 L3 u) (gn (ls [V3 bD bE bF,V3 Y O aa] (V3 bD bE bF) a1b bG.f5 fun eZ bZ=>(i8 (qh (bZ.hasK ((R.le.trans au).trans aV)) (fun h=>by cases h) (gd' (x8 (l5 (j5 ?_)))))))))))
   refine mv u (lv (y7 u u) (av u (i8 ?_)))
   cases oi ea
   exact qd ⟨_,u,bD,bE,bF,Y,O,aa,cs252,eb,u,bZ.f1.f6.f2.f6.s,(((aT.trans R.le).trans au).trans aV),(u0 _),ec,(E1.mono ((R.le.trans au).trans aV) hrow253),hm254⟩
  refine y4 (g8 (g8 ?_))
  cases oi bp
  cases dH _ u
  refine l6 ?_
  cases oi dF
  exact qd ⟨ap,aq,ar,Y,O,aa,cs252,ab,u,bQ,aT,bR,hrow253,hm254⟩
 rintro _ fb ⟨U,V,W,ak,X,am,cs233,an,rfl,ca,fc,ed,hrow234,hm235⟩
 refine qr (lv (j6 (ds:=[V3 U V W,V3 ak X am]) C4 u m1 ca u u) (lw [V3 U V W,V3 ak X am] C4 ca fun fd cb=>(nq (j9 ?_))))
 cases oi dD
 exact ez results120 C4 cb m0 ⟨U,V,W,ak,X,am,cs233,an,u,cb.f2.f3.s,ed,hrow234,hm235⟩

theorem b3S {q0:z7}{q1:Int}{r:A1×z7}(hS:SH w K Z w K [s7 g1 [V3 A a b,V6 q0.p_] 141])(bW:b7 tU8 K A a b q0.b_)(bX:i7 q0.p_)(bo:i7 q1)(hm:a3L F q0 q1=some r):
  Calls prog 184 #[.pointer (some ⟨g1,0,none⟩),V6 q1] w fun e w'=>∃a_2 n_3 c_4 a_6 n_7 c_8 a_10 n_11 c_12 K',e= .returned (.agg #[V6 r.1.Id,V3 a_2 n_3 c_4,V3 a_6 n_7 c_8])∧SH w K Z w' K' [tail (V3 a_2 n_3 c_4) 148 2,tail (V3 a_6 n_7 c_8) 137 2,s7 g1 [V3 a_10 n_11 c_12,V6 r.2.p_] 141]∧i7 r.1.Id∧b7 K5 K' a_2 n_3 c_4 r.1.Fields∧b7 N0 K' a_6 n_7 c_8 r.1.Nums∧b7 tU8 K' a_10 n_11 c_12 r.2.b_∧i7 r.2.p_:=by
 rw [a3L] at hm
 refine ci func184 u ntmps184 (sr (al E8 hS fun I w9 bY=>?_))
 have bZ:SH _ _ _ _ _ [s7 I [V6 0,V3 none 0 0,V3 none 0 0] 44,_]:=bY
 refine nr (mv u (lv (C3 (cs:=#[V6 q1,V3 none 0 0,V3 none 0 0]) b4M E8 u (by kernel_rfl)) (al E8 bZ fun k dX ca=>?_)))
 have cb:SH _ _ _ _ _ [s7 k [V6 0,V3 none 0 0,V3 none 0 0] 44,_,_]:=ca
 refine lw [V6 q1,V3 none 0 0,V3 none 0 0] E8 cb fun dY cc=>(O7 (mv u ?_))
 obtain⟨dZ,cd,ce⟩:=ob hm
 have bp:=cc.f2
 refine lk a4r (A6 F bp.e1 bW bX (by decide :i7 6) cd) ?_
 rintro ea eb ⟨cf,cg,ch,aB,rfl,cj,ec,bq,br⟩
 have bs:=(bp.c1 cj).t3
 refine lv (E7 u u) (nq ?_)
 obtain⟨l,ck,cl⟩:=ob ce
 refine l4 (fun E' w'=>∃aC aD aE S T U o q s V,E'=[(0,pt g1),(4,pt I),(5,pt k)]∧SH w K Z w' V [s7 g1 [V3 aC aD aE,V6 l.1.p_] 141,s7 I [V6 0,V3 none 0 0,V3 none 0 0] 44,s7 k [V6 l.2.Id,V3 S T U,V3 o q s] 44,tail (V3 S T U) 148 2,tail (V3 o q s) 137 2]∧M0 aB V∧b7 tU8 V aC aD aE l.1.b_∧i7 l.1.p_∧i7 l.2.Id∧b7 K5 V S T U l.2.Fields∧b7 N0 V o q s l.2.Nums) ?_ ?_
 ·refine D5 ck u (fun cm aF=>?_) (fun cm aF=>?_)
  ·have ao:=bs.drew
   refine wh1 (fun w'=>H0 aB w') (fun w'=>B0 k [V6 q1,V3 none 0 0,V3 none 0 0] w') 8 [(1,6),(1,7),(1,8),(6,7),(6,8),(7,8)] mixed (ao.hasK kr) (fun _=>ao.hasObj (.tail _ (.head _))) (gt (c7 a1x u) (gf (fun _ h=>B5 a7g u u h) (gt (i5 u) (gn ?_))))
   obtain⟨ap,cn,cp⟩:=ob aF
   refine lk c34 (a7L F ao.e1 bq br cn) ?_
   rintro ed ee ⟨cq,cr,ct,ef,rfl,W,cu,cv,cw⟩
   have aG:=(ao.c1 W).t3
   refine i8 (qh (aG.hasK W.le) (fun _=>aG.hasObj (.tail _ (.head _))) (gt (C3 (cs:=#[sv [98,111,100,121],sv ap.1]) c4l U6 u (by kernel_rfl)) (gn (lb K5 (.agg #[sv [98,111,100,121],sv ap.1]) [sv [98,111,100,121],sv ap.1] (Q6.mk ([98,111,100,121]:r4) ap.1) underlying41 U6 ⟨u,(by decide :([98,111,100,121]:r4).length≤maxLen),cu⟩ aG fun eg eh ei ae cx aH=>(i8 (qh (aH.hasK (W.le.trans ae)) (fun _=>aH.hasObj (.tail _ (.tail _ (.head _)))) (gn ?_)))))))
   have cy:=aH.nil 148 2
   obtain⟨ej,cz,cA⟩:=ob cp
   refine lp underlying41 U6 (b7.nil _ _) cx cz cy fun aI aJ aK ek cB aq cC aL=>(i8 (qh (aL.hasK ((W.le.trans ae).trans aq)) (fun _=>aL.hasObj (.tail _ (.tail _ (.tail _ (.head _))))) (gt (c7 a1x u) (gn (ls [V6 q1,V3 aI aJ aK,V3 none 0 0] (V3 aI aJ aK) a7g aL.f3 fun el bu=>(i8 (qh (bu.hasK ((W.le.trans ae).trans aq)) (fun h=>by cases h) (gd' ?_))))))))
   cases oi cA
   have cD:=bu.nil 137 2
   exact qd ⟨cq,cr,ct,aI,aJ,aK,none,0,0,cB,u,cD.f2.f2.f5.f5.s,((W.le.trans ae).trans aq),(cv.mono (ae.trans aq)),cw,bo,cC,(b7.nil _ _)⟩
  refine j3 ?_
  cases oi aF
  have cE:=bs.nil 148 2
  have cF:=cE.nil 137 2
  exact qd ⟨cf,cg,ch,none,0,0,none,0,0,aB,u,cF.f1.f3.f4.f4,kr,bq,br,bo,(b7.nil _ _),(b7.nil _ _)⟩
 rintro _ em ⟨aC,aD,aE,S,T,U,o,q,s,V,rfl,bv,en,cG,cH,bx,bz,bA⟩
 refine qs (sr (mv u ?_))
 obtain⟨eo,cI,cJ⟩:=ob cl
 refine lk a4r (A6 F bv.e1 cG cH (by decide :i7 3) cI) ?_
 rintro ep eq ⟨cK,cL,cM,aM,rfl,af,es,bB,bC⟩
 have bD:=(bv.c1 af).t5
 refine lv (A9 u u) (nq ?_)
 obtain⟨m,cN,cO⟩:=ob cJ
 refine l4 (fun E' w'=>∃aN aO aP v x y X Y aa ab,E'=[(0,pt g1),(4,pt I),(5,pt k)]∧SH w K Z w' ab [s7 g1 [V3 aN aO aP,V6 m.1.p_] 141,s7 I [V6 0,V3 none 0 0,V3 none 0 0] 44,s7 k [V6 m.2.Id,V3 v x y,V3 X Y aa] 44,tail (V3 v x y) 148 2,tail (V3 X Y aa) 137 2]∧M0 aM ab∧b7 tU8 ab aN aO aP m.1.b_∧i7 m.1.p_∧i7 m.2.Id∧b7 K5 ab v x y m.2.Fields∧b7 N0 ab X Y aa m.2.Nums) ?_ ?_
 ·refine D5 cN u (fun cP aQ=>?_) (fun cP aQ=>?_)
  ·have ar:=bD.drew
   refine wh1 (fun w'=>H0 aM w') (fun w'=>B0 k [V6 l.2.Id,V3 S T U,V3 o q s] w') 8 [(1,6),(1,7),(1,8),(6,7),(6,8),(7,8)] mixed (ar.hasK kr) (fun _=>ar.hasObj (.tail _ (.tail _ (.head _)))) (gt (c7 a1x u) (gf (fun _ h=>B5 a7g u u h) (gt (i5 u) (gn ?_))))
   obtain⟨au,cQ,cR⟩:=ob aQ
   refine lk c34 (a7L F ar.e1 bB bC cQ) ?_
   rintro et eu ⟨cS,cT,cU,ev,rfl,B,cV,cW,cX⟩
   have aR:=(ar.c1 B).t5
   refine i8 (qh (aR.hasK B.le) (fun _=>aR.hasObj (.tail _ (.tail _ (.head _)))) (gt (C3 (cs:=#[sv [116,105,116,108,101],sv au.1]) c4l U6 u (by kernel_rfl)) (gn (lb K5 (.agg #[sv [116,105,116,108,101],sv au.1]) [sv [116,105,116,108,101],sv au.1] (Q6.mk ([116,105,116,108,101]:r4) au.1) underlying41 U6 ⟨u,(by decide :([116,105,116,108,101]:r4).length≤maxLen),cV⟩ aR fun ew ex eA J cY aS=>(i8 (qh (aS.hasK (B.le.trans J)) (fun _=>aS.hasObj (.tail _ (.tail _ (.tail _ (.head _))))) (gn ?_)))))))
   obtain⟨eB,cZ,da⟩:=ob cR
   refine lp underlying41 U6 (bz.mono ((af.le.trans B.le).trans J)) cY cZ aS.f4 fun aT aU aV eC db ag dc aW=>(i8 (qh (aW.hasK ((B.le.trans J).trans ag)) (fun _=>aW.hasObj (.tail _ (.tail _ (.tail _ (.tail _ (.head _)))))) (gt (c7 a1x u) (gn (ls [V6 l.2.Id,V3 aT aU aV,V3 o q s] (V3 aT aU aV) a7g aW.f4 fun eD bE=>(i8 (qh (bE.hasK ((B.le.trans J).trans ag)) (fun h=>by cases h) (gd' ?_))))))))
   cases oi da
   exact qd ⟨cS,cT,cU,aT,aU,aV,o,q,s,db,u,bE.f5.f2.f2.f5.f5.s,((B.le.trans J).trans ag),(cW.mono (J.trans ag)),cX,bx,dc,(b7.mono (((af.le.trans B.le).trans J).trans ag) bA)⟩
  refine j3 ?_
  cases oi aQ
  exact qd ⟨cK,cL,cM,S,T,U,o,q,s,aM,u,bD,kr,bB,bC,bx,(bz.mono af.le),(bA.mono af.le)⟩
 rintro _ eE ⟨aN,aO,aP,v,x,y,X,Y,aa,ab,rfl,bF,eF,dd,de,bG,bH,bI⟩
 refine qs (sr (mv u ?_))
 obtain⟨eG,df,dg⟩:=ob cO
 refine lk a4r (A6 F bF.e1 dd de (by decide :i7 3) df) ?_
 rintro eH eI ⟨dh,di,dj,aX,rfl,ah,eJ,bJ,bK⟩
 have bL:=(bF.c1 ah).t5
 refine lv (E7 u u) (nq ?_)
 obtain⟨c,dk,dl⟩:=ob dg
 refine l4 (fun E' w'=>∃aY aZ ba d f i C D G ac,E'=[(0,pt g1),(4,pt I),(5,pt k)]∧SH w K Z w' ac [s7 g1 [V3 aY aZ ba,V6 c.1.p_] 141,s7 I [V6 0,V3 none 0 0,V3 none 0 0] 44,s7 k [V6 c.2.Id,V3 d f i,V3 C D G] 44,tail (V3 d f i) 148 2,tail (V3 C D G) 137 2]∧M0 aX ac∧b7 tU8 ac aY aZ ba c.1.b_∧i7 c.1.p_∧i7 c.2.Id∧b7 K5 ac d f i c.2.Fields∧b7 N0 ac C D G c.2.Nums) ?_ ?_
 ·refine D5 dk u (fun dm bb=>?_) (fun dm bb=>?_)
  ·have aw:=bL.drew
   refine wh1 (fun w'=>H0 aX w') (fun w'=>B0 k [V6 m.2.Id,V3 v x y,V3 X Y aa] w') 8 [(1,6),(1,7),(1,8),(6,7),(6,8),(7,8)] mixed (aw.hasK kr) (fun _=>aw.hasObj (.tail _ (.tail _ (.head _)))) (gt (c7 a1S u) (gf (fun _ h=>B5 a7y u u h) (gt (i5 u) (gn ?_))))
   obtain⟨ax,dn,dp⟩:=ob bb
   refine lk a4r (A6 F aw.e1 bJ bK (by decide :i7 4) dn) ?_
   rintro eK eL ⟨dq,dr,dt,eM,rfl,H,du,dv,dw⟩
   have bc:=(aw.c1 H).t5
   refine i8 (qh (bc.hasK H.le) (fun _=>bc.hasObj (.tail _ (.tail _ (.head _)))) (gt (C3 (cs:=#[sv [114,97,116,101],V6 ax.1]) c4j Y9 u (by kernel_rfl)) (gn (lb N0 (.agg #[sv [114,97,116,101],V6 ax.1]) [sv [114,97,116,101],V6 ax.1] (a5j.mk ([114,97,116,101]:r4) ax.1) underlying42 Y9 ⟨u,(by decide :([114,97,116,101]:r4).length≤maxLen),du⟩ bc fun eN eO eP O dx bd=>(i8 (qh (bd.hasK (H.le.trans O)) (fun _=>bd.hasObj (.tail _ (.tail _ (.tail _ (.head _))))) (gn ?_)))))))
   obtain⟨eQ,dy,dz⟩:=ob dp
   refine lp underlying42 Y9 (bI.mono ((ah.le.trans H.le).trans O)) dx dy bd.f5 fun be bf bg eR dA ai dB bh=>(i8 (qh (bh.hasK ((H.le.trans O).trans ai)) (fun _=>bh.hasObj (.tail _ (.tail _ (.tail _ (.tail _ (.head _)))))) (gt (c7 a1S u) (gn (ls [V6 m.2.Id,V3 v x y,V3 be bf bg] (V3 be bf bg) a7y bh.f4 fun eS bM=>(i8 (qh (bM.hasK ((H.le.trans O).trans ai)) (fun h=>by cases h) (gd' ?_))))))))
   cases oi dz
   exact qd ⟨dq,dr,dt,v,x,y,be,bf,bg,dA,u,bM.f1.f5.f2.f5.f5.s,((H.le.trans O).trans ai),(dv.mono (O.trans ai)),dw,bG,(b7.mono (((ah.le.trans H.le).trans O).trans ai) bH),dB⟩
  refine j3 ?_
  cases oi bb
  exact qd ⟨dh,di,dj,v,x,y,X,Y,aa,aX,u,bL,kr,bJ,bK,bG,(bH.mono ah.le),(bI.mono ah.le)⟩
 rintro _ eT ⟨aY,aZ,ba,d,f,i,C,D,G,ac,rfl,bN,eU,dC,dD,bO,bP,bQ⟩
 refine qs (sr (mv u ?_))
 obtain⟨eV,dE,dF⟩:=ob dl
 refine lk a4r (A6 F bN.e1 dC dD (by decide :i7 3) dE) ?_
 rintro eW eX ⟨dG,dH,dI,bR,rfl,aj,eY,bS,bT⟩
 have bi:=(bN.c1 aj).t5
 refine lv (A9 u u) (nq (D5 dF u (fun dJ bj=>?_) (fun dJ bj=>?_)))
 ·have ay:=bi.drew
  refine wh1 (fun w'=>H0 bR w') (fun w'=>B0 k [V6 c.2.Id,V3 d f i,V3 C D G] w') 9 [(1,7),(1,8),(1,9),(7,8),(7,9),(8,9)] mixed (ay.hasK kr) (fun _=>ay.hasObj (.tail _ (.tail _ (.head _)))) (gt (c7 a1S u) (gf (fun _ h=>B5 a7y u u h) (gt (i5 u) (gn ?_))))
  obtain⟨az,dK,dL⟩:=ob bj
  refine lk a4r (A6 F ay.e1 bS bT (by decide :i7 30) dK) ?_
  rintro eZ fb ⟨dM,dN,dO,fc,rfl,R,fd,dP,dQ⟩
  have bk:=(ay.c1 R).t5
  refine i8 (qh (bk.hasK R.le) (fun _=>bk.hasObj (.tail _ (.tail _ (.head _)))) (gt (y7 u u) (gt (C3 (cs:=#[sv [121,101,97,114],V6 (z8 ((2000:Int)+az.1))]) c4j Y9 u (by kernel_rfl)) (gn (lb N0 (.agg #[sv [121,101,97,114],V6 (z8 ((2000:Int)+az.1))]) [sv [121,101,97,114],V6 (z8 ((2000:Int)+az.1))] (a5j.mk ([121,101,97,114]:r4) (z8 ((2000:Int)+az.1))) underlying42 Y9 ⟨u,(by decide :([121,101,97,114]:r4).length≤maxLen),(u0 _)⟩ bk fun fe fg fh ad dR bl=>(i8 (qh (bl.hasK (R.le.trans ad)) (fun _=>bl.hasObj (.tail _ (.tail _ (.tail _ (.head _))))) (gn ?_))))))))
  obtain⟨fi,dS,dT⟩:=ob dL
  refine lp underlying42 Y9 (bQ.mono ((aj.le.trans R.le).trans ad)) dR dS bl.f5 fun ak am an fj dU aA dV bm=>(i8 (qh (bm.hasK ((R.le.trans ad).trans aA)) (fun _=>bm.hasObj (.tail _ (.tail _ (.tail _ (.tail _ (.head _)))))) (gt (c7 a1S u) (gn (ls [V6 c.2.Id,V3 d f i,V3 ak am an] (V3 ak am an) a7y bm.f4 fun fk bn=>(i8 (qh (bn.hasK ((R.le.trans ad).trans aA)) (fun h=>by cases h) (gd' (qr (lv (j6 (ds:=[V6 c.2.Id,V3 d f i,V3 ak am an]) E8 u m0 bn u u) (lw [V6 c.2.Id,V3 d f i,V3 ak am an] E8 bn.f4 fun fm bU=>?_)))))))))))
  refine nq (j9 ?_)
  cases oi dT
  exact ez results184 E8 bU m0 ⟨d,f,i,ak,am,an,dM,dN,dO,dU,u,bU.f4.f3.f5.s,bO,(b7.mono (((aj.le.trans R.le).trans ad).trans aA) bP),dV,(dP.mono (ad.trans aA)),dQ⟩
 refine j3 (qr (lv (j6 (ds:=[V6 c.2.Id,V3 d f i,V3 C D G]) E8 u m2 bi u u) (lw [V6 c.2.Id,V3 d f i,V3 C D G] E8 bi.f1 fun fn bV=>(nq (j9 ?_)))))
 cases oi bj
 exact ez results184 E8 bV m0 ⟨d,f,i,C,D,G,dG,dH,dI,bR,u,bV.f1.f4.f4.s,bO,(bP.mono aj.le),(bQ.mono aj.le),bS,bT⟩

theorem b2N {q0:z7}{r:(List A1)×z7}(hS:SH w K Z w K [s7 g1 [V3 A a b,V6 q0.p_] 141])(aj:b7 tU8 K A a b q0.b_)(ak:i7 q0.p_)(hm:a2T F q0=some r):
  Calls prog 149 #[.pointer (some ⟨g1,0,none⟩)] w fun e w'=>∃a_1 n_2 c_3 a_5 n_6 c_7 K',e= .returned (V3 a_1 n_2 c_3)∧SH w K Z w' K' [tail (V3 a_1 n_2 c_3) 44 3,s7 g1 [V3 a_5 n_6 c_7,V6 r.2.p_] 141]∧b7 F6 K' a_1 n_2 c_3 r.1∧b7 tU8 K' a_5 n_6 c_7 r.2.b_∧i7 r.2.p_:=by
 rw [a2T] at hm
 refine ci func149 u ntmps149 (sr (lv (r_n u) (nr (b0 F6 underlying27 E8 hS fun a7 w9 bm am an ao=>(av u (nr (lv (N2 u) (O7 (mv u ?_)))))))))
 obtain⟨bn,ap,aq⟩:=ob hm
 have ab:=ao.f1
 refine lk a4r (A6 F ab.e1 (aj.mono am) ak (by decide :i7 6) ap) ?_
 rintro bo bp ⟨ar,au,aw,H,rfl,ac,ax,ay,az⟩
 have aA:=(ab.c1 ac).t2
 refine av u (nq ?_)
 obtain⟨s,aB,aC⟩:=ob aq
 refine l4 (fun E' w'=>∃i k l x y B d,E'=[(0,pt g1),(3,V3 i k l)]∧SH w K Z w' d [s7 g1 [V3 x y B,V6 s.2.p_] 141,tail (V3 i k l) 44 3]∧M0 H d∧b7 F6 d i k l s.1∧b7 tU8 d x y B s.2.b_∧i7 s.2.p_) ?_ ?_
 ·refine j7 ?_
  obtain⟨bq,aD,aE⟩:=ob aB
  refine qw (fun (c:(List A1)×Int×Int×z7) E' w'=>∃m o q C D G f,E'=[(0,pt g1),(3,V3 m o q),(4,V6 c.2.1),(5,V6 c.2.2.1)]∧SH w K Z w' f [s7 g1 [V3 C D G,V6 c.2.2.2.p_] 141,tail (V3 m o q) 44 3]∧M0 H f∧b7 F6 f m o q c.1∧i7 c.2.1∧i7 c.2.2.1∧b7 tU8 f C D G c.2.2.2.b_∧i7 c.2.2.2.p_) aD ⟨a7,0,0,ar,au,aw,H,u,aA,kr,(an.mono ac.le),I5,ax,ay,az⟩ ?_
  rintro c _ br bs aF aG ⟨m,o,q,C,D,G,f,rfl,I,ad,ae,bu,bv,af,ag⟩
  refine o4 (sr (mv u (lv (E7 u u) (nq (D5 aF u (fun aH J=>?_) (fun aH J=>?_))))))
  ·refine j3 (qs (j7 (sr (mv u (lv (y7 u u) (mv u ?_))))))
   obtain⟨bx,aI,aJ⟩:=ob J
   refine lk a4r (A6 F I.e1 af ag (by decide :i7 3) aI) ?_
   rintro bz bA ⟨bB,bC,bD,bE,rfl,O,bF,aK,aL⟩
   have ah:=(I.c1 O).t2
   refine lv (y7 u u) (av u (nq (j5 (mv u (mv u (mv u ?_))))))
   obtain⟨R,aM,aN⟩:=ob aJ
   refine lk c6c (b3S F ah.e1 aK aL (u0 _) aM) ?_
   rintro bG bH ⟨S,T,U,V,W,X,aO,aP,aQ,bI,rfl,Y,aR,aS,aT,aU,aV⟩
   have aW:=(ah.c1 Y).t4
   refine lb F6 (.agg #[V6 R.1.Id,V3 S T U,V3 V W X]) [V6 R.1.Id,V3 S T U,V3 V W X] R.1 underlying27 E8 ⟨S,T,U,V,W,X,u,aR,aS,aT⟩ aW fun bJ bK bL aa aX aY=>?_
   obtain⟨bM,aZ,ba⟩:=ob aN
   refine lp underlying27 E8 (ae.mono ((O.le.trans Y.le).trans aa)) aX aZ aY.f4 fun bb bc bd bN be ai bf bg=>(av u (nb (l5 (j5 (mv u (lv (I6 u u) (av u (i8 ?_))))))))
   cases oi ba
   exact qd ⟨_,u,bb,bc,bd,aO,aP,aQ,be,u,bg.f4.s,((((ad.trans O.le).trans Y.le).trans aa).trans ai),bf,(u0 _),(u0 _),(aU.mono (aa.trans ai)),aV⟩
  refine y4 (g8 (g8 ?_))
  cases oi J
  cases aG _ u
  refine l6 ?_
  cases oi aE
  exact qd ⟨m,o,q,C,D,G,f,u,I,ad,ae,af,ag⟩
 rintro _ bO ⟨i,k,l,x,y,B,d,rfl,bh,bP,bi,bj,bk⟩
 refine qr (mv u (av u (nq (j9 ?_))))
 cases oi aC
 exact ey results149 ⟨i,k,l,x,y,B,d,u,bh.f1,bi,bj,bk⟩

theorem b3U {q0:z7}{r:u6×A5×z7}(hS:SH w K Z w K [s7 g1 [V3 A a b,V6 q0.p_] 141])(V:b7 tU8 K A a b q0.b_)(W:i7 q0.p_)(hm:a3N F q0=some r):
  Calls prog 107 #[.pointer (some ⟨g1,0,none⟩)] w fun e w'=>∃a_1 n_2 c_3 a_5 n_6 c_7 a_9 n_10 c_11 a_13 n_14 c_15 cs_16 a_19 n_20 c_21 K',e= .returned (.tuple #[.agg #[V3 a_1 n_2 c_3,V3 a_5 n_6 c_7],.agg #[V3 a_9 n_10 c_11,V3 a_13 n_14 c_15]])∧SH w K Z w' K' [tail (V3 a_1 n_2 c_3) 9 1,tail (V3 a_5 n_6 c_7) 144 2,tail (V3 a_9 n_10 c_11) 44 3,Z5 (V3 a_13 n_14 c_15) cs_16 99 3,s7 g1 [V3 a_19 n_20 c_21,V6 r.2.2.p_] 141]∧b7 D9 K' a_1 n_2 c_3 r.1.Stops∧b7 L0 K' a_5 n_6 c_7 r.1.Syns∧b7 F6 K' a_9 n_10 c_11 r.2.1.Docs∧E1 true B8 K' cs_16 r.2.1.Entries∧n_14=r.2.1.Entries.length∧b7 tU8 K' a_19 n_20 c_21 r.2.2.b_∧i7 r.2.2.p_:=by
 rw [a3N] at hm
 refine ci func107 u ntmps107 (sr (al B9 hS fun X w9 Y=>?_))
 have aa:SH _ _ _ _ _ [s7 X [V3 none 0 0,V3 none 0 0] 26,_]:=Y
 refine al C4 aa fun ab aF ac=>?_
 have ad:SH _ _ _ _ _ [s7 ab [V3 none 0 0,V3 none 0 0] 30,_,_]:=ac
 refine nr (mv u ?_)
 obtain⟨aG,ae,af⟩:=ob hm
 have O:=ad.f2
 refine lk c5P (b2M F O.e1 V W ae) ?_
 rintro aH aI ⟨f,i,k,l,m,o,aJ,aK,aL,ag,rfl,ah,R,S,ai,aj⟩
 have ak:=(O.c1 ah).t5
 refine al B9 ak fun T aM am=>?_
 have an:SH _ _ _ _ _ [s7 T [V3 none 0 0,V3 none 0 0] 26,_,_,_,_,_]:=am
 refine lw [V3 f i k,V3 l m o] B9 an fun aN ao=>(ns ?_)
 have x:=ao.drew
 refine wh1 (fun w'=>H0 ag w'∧B0 T [V3 f i k,V3 l m o] w') (fun w'=>True) 7 [] mixed ⟨x.hasK kr,x.hasObj m0⟩ (fun _=>trivial) (gh (fun _ h=>A0 (ds:=[V3 f i k,V3 l m o]) B9 u u u h.2) (gh (fun _ h=>A0 (ds:=[V3 f i k,V3 l m o]) B9 u u u h.2) (gt (i5 u) (gn ?_))))
 obtain⟨aO,ap,aq⟩:=ob af
 have U:=x.f3
 refine lk c5Q (b2N F U.e1 ai aj ap) ?_
 rintro aP aQ ⟨aR,aS,aT,ar,au,aw,aU,rfl,d,ax,ay,az⟩
 have v:=(U.c1 d).t7
 refine i8 (qh ⟨v.hasK d.le,v.hasObj m2⟩ (fun _=>trivial) (gn ?_))
 obtain⟨aV,aA,aB⟩:=ob aq
 refine lk c3Q (b0P F v.enter0 (R.mono d.le) (S.mono d.le) ax aA) ?_
 rintro aW aX ⟨y,B,C,D,G,H,cs77,aC,rfl,q,aD,hrow78,hm79⟩
 have I:=(v.c0 q).t9
 refine i8 (qh ⟨I.hasK (d.le.trans q.le),I.hasObj m4⟩ (fun _=>trivial) (gn (lw [V3 f i k,V3 l m o] B9 I.f8 fun aY J=>(i8 (qh ⟨J.hasK (d.le.trans q.le),J.hasObj m5⟩ (fun _=>trivial) (gn (lw [V3 y B C,V3 D G H] C4 J.f8 fun aZ s=>(i8 (qh ⟨s.hasK (d.le.trans q.le),s.hasObj m6⟩ (fun _=>trivial) (gd' (l5 (j9 ?_))))))))))))
 cases oi aB
 exact S7 (vs:=[_,_]) results107 ⟨⟨_,_,u,B2 B9 (cs:=[V3 f i k,V3 l m o]) (fun j c e=>by rw [Nat.zero_add,s.mem_obj m1];exact e) (.inl ⟨u,u,u⟩)⟩,⟨_,_,u,B2 C4 (cs:=[V3 y B C,V3 D G H]) (fun j c e=>by rw [Nat.zero_add,s.mem_obj m0];exact e) (.inl ⟨u,u,u⟩)⟩,trivial⟩ ⟨f,i,k,l,m,o,y,B,C,D,G,H,cs77,ar,au,aw,aC,u,s.f5.f4.f4.f8.f8.s,(R.mono (d.le.trans q.le)),(S.mono (d.le.trans q.le)),aD,hrow78,hm79,(ay.mono q.le),az⟩

theorem a2A {q0:z7}{r:u6×A5×z7}(hS:SH w K Z w K [s7 g1 [V3 A a b,V6 q0.p_] 141])(bl:b7 tU8 K A a b q0.b_)(bm:i7 q0.p_)(hm:S5 F q0=some r):
  Calls prog 56 #[.pointer (some ⟨g1,0,none⟩)] w fun e w'=>∃a_1 n_2 c_3 a_5 n_6 c_7 a_9 n_10 c_11 a_13 n_14 c_15 a_17 n_18 c_19 K',e= .returned (.tuple #[.agg #[V3 a_1 n_2 c_3,V3 a_5 n_6 c_7],.agg #[V3 a_9 n_10 c_11,V3 a_13 n_14 c_15]])∧SH w K Z w' K' [tail (V3 a_1 n_2 c_3) 9 1,tail (V3 a_5 n_6 c_7) 144 2,tail (V3 a_13 n_14 c_15) 99 3,s7 g1 [V3 a_17 n_18 c_19,V6 r.2.2.p_] 141]∧b7 D9 K' a_1 n_2 c_3 r.1.Stops∧b7 L0 K' a_5 n_6 c_7 r.1.Syns∧b7 F6 K' a_9 n_10 c_11 r.2.1.Docs∧b7 B8 K' a_13 n_14 c_15 r.2.1.Entries∧b7 tU8 K' a_17 n_18 c_19 r.2.2.b_∧i7 r.2.2.p_:=by
 rw [S5] at hm
 refine ci func56 rfl ntmps56 (sr (al B9 hS fun g7 w9 bo=>?_))
 have bp:SH _ _ _ _ _ [s7 g7 [V3 none 0 0,V3 none 0 0] 26,_]:=bo
 refine al C4 bp fun bq cJ br=>?_
 have bs:SH _ _ _ _ _ [s7 bq [V3 none 0 0,V3 none 0 0] 30,_,_]:=br
 refine nr (mv rfl ?_)
 obtain⟨cK,bu,bv⟩:=ob hm
 have bc:=bs.f2
 refine lk c5s (b3U F bc.e1 bl bm bu) ?_
 rintro cL cM ⟨f,i,k,l,m,o,s,x,y,q,B,C,cs38,bx,bz,bA,bB,rfl,bC,aa,ab,ac,hrow39,hm40,bd,be⟩
 have bD:=(bc.c1 bC).t7
 refine mv rfl (lv (y3 rfl rfl) (lv (y3 rfl rfl) (al B9 bD fun Y cN bE=>?_)))
 have bF:SH _ _ _ _ _ [s7 Y [V3 none 0 0,V3 none 0 0] 26,_,_,_,_,_,_,_]:=bE
 refine al C4 bF fun O cO bG=>?_
 have bH:SH _ _ _ _ _ [s7 O [V3 none 0 0,V3 none 0 0] 30,_,_,_,_,_,_,_,_]:=bG
 refine lw [V3 f i k,V3 l m o] B9 bH.f1 fun cP bI=>(lw [V3 s x y,V3 q B C] C4 bI.f1 fun cQ ad=>(O7 (fl M2 rfl a1e m0 ad rfl (lv (a69 underlying28 rfl hm40) (lv (E7 rfl rfl) (nq (D5 bv rfl (fun bJ aR=>?_) (fun bJ aR=>?_))))))))
 ·refine sr (mv rfl (fl M2 rfl a1e m0 ad rfl (lv (a69 underlying28 rfl hm40) ?_)))
  obtain⟨aS,bK,bL⟩:=ob aR
  have bf:=ad.f6
  refine lk a4r (A6 F bf.e1 bd be (a0Z (b7q ad m5 hm40)) bK) ?_
  rintro cR cS ⟨cT,cU,cV,cW,rfl,D,cX,bM,bN⟩
  have bg:=(bf.c1 D).t9
  refine av rfl (nr (mv rfl ?_))
  obtain⟨cY,bO,bP⟩:=ob bL
  refine lk a4r (A6 F bg.e1 bM bN (by decide :i7 16) bO) ?_
  rintro cZ da ⟨aj,ak,am,an,rfl,G,db,ao,ap⟩
  have R:=(bg.c1 G).t9
  refine nq (j7 (sr (lv (A9 rfl rfl) (av rfl (nq (D5 bP rfl (fun bQ aT=>?_) (fun bQ aT=>?_)))))))
  ·refine j5 (fl M2 rfl a1e m1 R rfl (mv rfl ?_))
   obtain⟨H,ae,bR⟩:=ob aT
   obtain⟨dc,bh⟩:=SH.rowI_at R m6 hm40 ae
   obtain⟨dd,bS,bT⟩:=E1.at (E1.mono (D.le.trans G.le) hrow39) ae
   obtain⟨aq,ar,au,rfl,bU,de,bV⟩:=bS
   have bW: ∀(j:Nat) (d:Value),[sv H.Field,sv H.Term,V3 aq ar au][j]? =some d→cs38[aS.1.toNat*B8.size+j]? =some d:=bT
   refine lv (a5Q (t:=B8) underlying28 P2 rfl rfl bh hm40 ae) (fa a21 rfl (c1e (t:=B8) (off:=1) (ds:=[sv H.Field,sv H.Term,V3 aq ar au]) (v:=sv [122,122,122]) (u:=.agg #[sv H.Field,sv [122,122,122],V3 aq ar au]) (e:=(C0.mk H.Field ([122,122,122]:r4) H.Posts)) wn G7 rfl rfl rfl rfl (by simp [Value.cells,Value.oneCell',sv]) bh R.f6 (E1.mono (D.le.trans G.le) hrow39) hm40 ae bW rfl rfl ⟨aq,ar,au,rfl,bU,(by decide :([122,122,122]:r4).length≤maxLen),bV⟩ fun cs111 df hrow113 hm114 bX=>?_))
   have bY:=c1Q (e:=(C0.mk H.Field ([122,122,122]:r4) H.Posts)) ae
   obtain⟨dg,bZ,ca⟩:=E1.at hrow113 bY
   obtain⟨cb,cc,cd,rfl,dh,di,dj⟩:=bZ
   have dk: ∀(j:Nat) (d:Value),[sv ((C0.mk H.Field ([122,122,122]:r4) H.Posts).Field),sv ((C0.mk H.Field ([122,122,122]:r4) H.Posts).Term),V3 cb cc cd][j]? =some d→cs111[aS.1.toNat*B8.size+j]? =some d:=ca
   refine nb (qs ?_)
   have aw:=bX.drew
   refine wh1 (fun w'=>H0 an w'∧B0 Y [V3 f i k,V3 l m o] w'∧B0 O [V3 s x y,V3 q B C] w') (fun w'=>True) 4 [] mixed ⟨aw.hasK kr,aw.hasObj m3,aw.hasObj m2⟩ (fun _=>trivial) (gh (fun _ h=>A0 (ds:=[V3 f i k,V3 l m o]) B9 rfl rfl rfl h.2.1) (gh (fun _ h=>A0 (ds:=[V3 s x y,V3 q B C]) C4 rfl rfl rfl h.2.2) (gn (lw [V3 f i k,V3 l m o] B9 aw.f8 fun dl ax=>(i8 (qh ⟨ax.hasK kr,ax.hasObj m4,ax.hasObj m3⟩ (fun _=>trivial) (gn (lw [V3 s x y,V3 q B C] C4 ax.f8 fun dm ay=>(i8 (qh ⟨ay.hasK kr,ay.hasObj m5,ay.hasObj m4⟩ (fun _=>trivial) (gd' ?_)))))))))))
   refine l5 (j9 ?_)
   obtain⟨ce,az,cf,aU⟩:=SH.freezeI ay.f2 hrow113 hm114
   cases oi bR
   exact S7 (vs:=[_,_]) results56 ⟨⟨_,_,rfl,B2 B9 (cs:=[V3 f i k,V3 l m o]) (fun j c e=>by rw [Nat.zero_add,aU.mem_obj m2];exact e) (.inl ⟨rfl,rfl,rfl⟩)⟩,⟨_,_,rfl,B2 C4 (cs:=[V3 s x y,V3 q B C]) (fun j c e=>by rw [Nat.zero_add,aU.mem_obj m1];exact e) (.inl ⟨rfl,rfl,rfl⟩)⟩,trivial⟩ ⟨f,i,k,l,m,o,s,x,y,q,B,C,aj,ak,am,ce,rfl,aU.f3.f1.f7.f7.s,(aa.mono ((D.le.trans G.le).trans az)),(ab.mono ((D.le.trans G.le).trans az)),(ac.mono ((D.le.trans G.le).trans az)),cf,(ao.mono az),ap⟩
  refine sr (lv (A9 rfl rfl) (av rfl (nq (D5 aT rfl (fun cg aV=>?_) (fun cg aV=>?_)))))
  ·have af:=R.drew
   refine wh1 (fun w'=>H0 an w') (fun w'=>B0 O [V3 s x y,V3 q B C] w'∧a9N q cs38 w') 8 [(1,8),(3,5),(5,6),(6,7),(7,8)] mixed (af.hasK kr) (fun _=>⟨af.hasObj m1,af.hasRow m6⟩) (gt (c7 M2 rfl) (gf (fun _ h=>B5 a1e rfl rfl h.1) (gt (c7 M2 rfl) (gf (fun _ h=>B5 a1e rfl rfl h.1) (gt (i5 rfl) ?_)))))
   obtain⟨I,aW,ch⟩:=ob aV
   obtain⟨dn,bi⟩:=SH.rowI_at af m6 hm40 aW
   obtain⟨dp,cj,ck⟩:=E1.at (E1.mono (D.le.trans G.le) hrow39) aW
   obtain⟨ag,ah,ai,rfl,cl,cm,cn⟩:=cj
   have cp: ∀(j:Nat) (d:Value),[sv I.Field,sv I.Term,V3 ag ah ai][j]? =some d→cs38[aS.1.toNat*B8.size+j]? =some d:=ck
   refine gt (a5Q (t:=B8) underlying28 P2 rfl rfl bi hm40 aW) (gf (fun _ h=>(c0D (ds:=[sv I.Field,sv I.Term,V3 ag ah ai]) P2 rfl cp rfl bi h.2)) (gn (lb B8 (.agg #[sv I.Field,sv I.Term,V3 ag ah ai]) [sv I.Field,sv I.Term,V3 ag ah ai] I underlying28 P2 ⟨ag,ah,ai,rfl,cl,cm,cn⟩ af fun dq dr cq J cr aA=>(i8 (qh (aA.hasK J) (fun _=>⟨aA.hasObj m2,aA.hasRow m7⟩) (gn ?_))))))
   obtain⟨dt,ct,cu⟩:=ob ch
   refine b4s (t:=B8) wn rfl underlying28 P2 rfl rfl rfl rfl (E1.mono ((D.le.trans G.le).trans J) hrow39) hm40 cr ct aA.f7 fun S T U a4G du hrow179 hm180 bj=>(i8 (qh (bj.hasK J) (fun h=>by cases h) (gt (c7 M2 rfl) (gn (ls [V3 s x y,V3 S T U] (V3 S T U) a1e bj.f3 fun dv bk=>(i8 (qh (bk.hasK J) (fun h=>by cases h) (gd' (x8 (qs ?_))))))))))
   have aB:=bk.drew
   refine wh1 (fun w'=>H0 cq w'∧B0 Y [V3 f i k,V3 l m o] w'∧B0 O [V3 s x y,V3 S T U] w') (fun w'=>True) 4 [] mixed ⟨aB.hasK kr,aB.hasObj m4,aB.hasObj m0⟩ (fun _=>trivial) (gh (fun _ h=>A0 (ds:=[V3 f i k,V3 l m o]) B9 rfl rfl rfl h.2.1) (gh (fun _ h=>A0 (ds:=[V3 s x y,V3 S T U]) C4 rfl rfl rfl h.2.2) (gn (lw [V3 f i k,V3 l m o] B9 aB.f9 fun dw aC=>(i8 (qh ⟨aC.hasK kr,aC.hasObj m5,aC.hasObj m1⟩ (fun _=>trivial) (gn (lw [V3 s x y,V3 S T U] C4 aC.f9 fun dx aD=>(i8 (qh ⟨aD.hasK kr,aD.hasObj m6,aD.hasObj m2⟩ (fun _=>trivial) (gd' ?_)))))))))))
   refine l5 (j9 ?_)
   obtain⟨cv,aE,cw,aX⟩:=SH.freezeI aD.f3 hrow179 hm180
   cases oi cu
   exact S7 (vs:=[_,_]) results56 ⟨⟨_,_,rfl,B2 B9 (cs:=[V3 f i k,V3 l m o]) (fun j c e=>by rw [Nat.zero_add,aX.mem_obj m2];exact e) (.inl ⟨rfl,rfl,rfl⟩)⟩,⟨_,_,rfl,B2 C4 (cs:=[V3 s x y,V3 S T U]) (fun j c e=>by rw [Nat.zero_add,aX.mem_obj m1];exact e) (.inl ⟨rfl,rfl,rfl⟩)⟩,trivial⟩ ⟨f,i,k,l,m,o,s,x,y,S,T,U,aj,ak,am,cv,rfl,aX.f5.f1.f8.f8.s,(b7.mono (((D.le.trans G.le).trans J).trans aE) aa),(b7.mono (((D.le.trans G.le).trans J).trans aE) ab),(b7.mono (((D.le.trans G.le).trans J).trans aE) ac),cw,(ao.mono (J.trans aE)),ap⟩
  refine sr (lv (A9 rfl rfl) (av rfl (nq (D5 aV rfl (fun cx aY=>?_) (fun cx aY=>?_)))))
  ·refine j5 (fl L3 rfl a1b m1 R rfl ?_)
   obtain⟨dy,cy,cz⟩:=ob aY
   refine a9h (t:=F6) wn rfl underlying27 E8 rfl rfl (ac.mono (D.le.trans G.le)) cy fun V W X cA=>(fa L3 rfl (ls [V3 V W X,V3 q B C] (V3 V W X) a1b R.f1 fun dz cB=>(nb (qs ?_))))
   have aF:=cB.drew
   refine wh1 (fun w'=>H0 an w'∧B0 Y [V3 f i k,V3 l m o] w'∧B0 O [V3 V W X,V3 q B C] w') (fun w'=>True) 4 [] mixed ⟨aF.hasK kr,aF.hasObj m2,aF.hasObj m0⟩ (fun _=>trivial) (gh (fun _ h=>A0 (ds:=[V3 f i k,V3 l m o]) B9 rfl rfl rfl h.2.1) (gh (fun _ h=>A0 (ds:=[V3 V W X,V3 q B C]) C4 rfl rfl rfl h.2.2) (gn (lw [V3 f i k,V3 l m o] B9 aF.f8 fun dA aG=>(i8 (qh ⟨aG.hasK kr,aG.hasObj m3,aG.hasObj m1⟩ (fun _=>trivial) (gn (lw [V3 V W X,V3 q B C] C4 aG.f8 fun dB aH=>(i8 (qh ⟨aH.hasK kr,aH.hasObj m4,aH.hasObj m2⟩ (fun _=>trivial) (gd' ?_)))))))))))
   refine l5 (j9 ?_)
   obtain⟨cC,aI,cD,aZ⟩:=SH.freezeI aH.f8 (E1.mono (D.le.trans G.le) hrow39) hm40
   cases oi cz
   exact S7 (vs:=[_,_]) results56 ⟨⟨_,_,rfl,B2 B9 (cs:=[V3 f i k,V3 l m o]) (fun j c e=>by rw [Nat.zero_add,aZ.mem_obj m2];exact e) (.inl ⟨rfl,rfl,rfl⟩)⟩,⟨_,_,rfl,B2 C4 (cs:=[V3 V W X,V3 q B C]) (fun j c e=>by rw [Nat.zero_add,aZ.mem_obj m1];exact e) (.inl ⟨rfl,rfl,rfl⟩)⟩,trivial⟩ ⟨f,i,k,l,m,o,V,W,X,q,B,C,aj,ak,am,cC,rfl,aZ.f4.f1.f7.f7.s,(aa.mono ((D.le.trans G.le).trans aI)),(ab.mono ((D.le.trans G.le).trans aI)),(cA.mono aI),cD,(ao.mono aI),ap⟩
  refine j3 (x8 (qs ?_))
  have aJ:=R.drew
  refine wh1 (fun w'=>H0 an w'∧B0 Y [V3 f i k,V3 l m o] w'∧B0 O [V3 s x y,V3 q B C] w') (fun w'=>True) 4 [] mixed ⟨aJ.hasK kr,aJ.hasObj m2,aJ.hasObj m1⟩ (fun _=>trivial) (gh (fun _ h=>A0 (ds:=[V3 f i k,V3 l m o]) B9 rfl rfl rfl h.2.1) (gh (fun _ h=>A0 (ds:=[V3 s x y,V3 q B C]) C4 rfl rfl rfl h.2.2) (gn (lw [V3 f i k,V3 l m o] B9 aJ.f8 fun dC aK=>(i8 (qh ⟨aK.hasK kr,aK.hasObj m3,aK.hasObj m2⟩ (fun _=>trivial) (gn (lw [V3 s x y,V3 q B C] C4 aK.f8 fun dD aL=>(i8 (qh ⟨aL.hasK kr,aL.hasObj m4,aL.hasObj m3⟩ (fun _=>trivial) (gd' ?_)))))))))))
  refine l5 (j9 ?_)
  obtain⟨cE,aM,cF,ba⟩:=SH.freezeI aL.f8 (E1.mono (D.le.trans G.le) hrow39) hm40
  cases oi aY
  exact S7 (vs:=[_,_]) results56 ⟨⟨_,_,rfl,B2 B9 (cs:=[V3 f i k,V3 l m o]) (fun j c e=>by rw [Nat.zero_add,ba.mem_obj m2];exact e) (.inl ⟨rfl,rfl,rfl⟩)⟩,⟨_,_,rfl,B2 C4 (cs:=[V3 s x y,V3 q B C]) (fun j c e=>by rw [Nat.zero_add,ba.mem_obj m1];exact e) (.inl ⟨rfl,rfl,rfl⟩)⟩,trivial⟩ ⟨f,i,k,l,m,o,s,x,y,q,B,C,aj,ak,am,cE,rfl,ba.f3.f1.f7.f7.s,(aa.mono ((D.le.trans G.le).trans aM)),(ab.mono ((D.le.trans G.le).trans aM)),(ac.mono ((D.le.trans G.le).trans aM)),cF,(ao.mono aM),ap⟩
 refine j3 (qs ?_)
 have aN:=ad.drew
 refine wh1 (fun w'=>H0 bB w'∧B0 Y [V3 f i k,V3 l m o] w'∧B0 O [V3 s x y,V3 q B C] w') (fun w'=>True) 4 [] mixed ⟨aN.hasK kr,aN.hasObj m1,aN.hasObj m0⟩ (fun _=>trivial) (gh (fun _ h=>A0 (ds:=[V3 f i k,V3 l m o]) B9 rfl rfl rfl h.2.1) (gh (fun _ h=>A0 (ds:=[V3 s x y,V3 q B C]) C4 rfl rfl rfl h.2.2) (gn (lw [V3 f i k,V3 l m o] B9 aN.f8 fun dE aO=>(i8 (qh ⟨aO.hasK kr,aO.hasObj m2,aO.hasObj m1⟩ (fun _=>trivial) (gn (lw [V3 s x y,V3 q B C] C4 aO.f8 fun dF aP=>(i8 (qh ⟨aP.hasK kr,aP.hasObj m3,aP.hasObj m2⟩ (fun _=>trivial) (gd' ?_)))))))))))
 refine l5 (j9 ?_)
 obtain⟨cG,aQ,cH,bb⟩:=SH.freezeI aP.f7 hrow39 hm40
 cases oi aR
 exact S7 (vs:=[_,_]) results56 ⟨⟨_,_,rfl,B2 B9 (cs:=[V3 f i k,V3 l m o]) (fun j c e=>by rw [Nat.zero_add,bb.mem_obj m2];exact e) (.inl ⟨rfl,rfl,rfl⟩)⟩,⟨_,_,rfl,B2 C4 (cs:=[V3 s x y,V3 q B C]) (fun j c e=>by rw [Nat.zero_add,bb.mem_obj m1];exact e) (.inl ⟨rfl,rfl,rfl⟩)⟩,trivial⟩ ⟨f,i,k,l,m,o,s,x,y,q,B,C,bx,bz,bA,cG,rfl,bb.f8.f1.f7.f7.s,(aa.mono aQ),(ab.mono aQ),(ac.mono aQ),cH,(bd.mono aQ),be⟩

theorem a5K {q0:u6}{q1:A5}{r:Bool}(hS:SH w K [] w K [])(ad:b7 D9 K A a b q0.Stops)(ae:b7 L0 K B c d q0.Syns)(af:b7 F6 K C f i q1.Docs)(ag:b7 B8 K D k l q1.Entries)(hm:a0N F q0 q1=some r):
  Calls prog 64 #[.agg #[V3 A a b,V3 B c d],.agg #[V3 C f i,V3 D k l]] w (R_b w K r):=by
 rw [a0N] at hm
 refine ci func64 u ntmps64 (sr (bx u hS fun O bO aA=>?_))
 have aB:SH _ _ _ _ _ [s7 O [V3 A a b,V3 B c d] 26]:=aA
 refine bx u aB fun o bP aC=>?_
 have R:SH _ _ _ _ _ [s7 o [V3 C f i,V3 D k l] 30,_]:=aC
 refine lv (O6 u) (ns (o4 ?_))
 obtain⟨aD,aE,aF⟩:=ob hm
 refine l4 (IV w K [] K [(2,pt O),(3,pt o),(15,.bool aD)] [s7 O [V3 A a b,V3 B c d] 26,s7 o [V3 C f i,V3 D k l] 30]) ?_ ?_
 ·refine j5 (lv (j6 (ds:=[V3 A a b,V3 B c d]) B9 u m1 R u u) ?_)
  obtain⟨bQ,aG,aH⟩:=ob aE
  refine lk c3P (b0N F R.enter0 ad ae aG) ?_
  rintro bR bS ⟨aI,rfl,y⟩
  have G:=(R.c0 y).t2
  refine lv (A4 u) (mv u (bt aH (fun m S=>?_) (fun m S=>?_)))
  ·refine lu m (lu m (lu m (lu m (lv (J6 u m u) (i8 ?_)))))
   cases oi S
   exact qd ⟨aI,u,G.f1,y.le⟩
  refine lg m (c7 L3 u) (lg m (w8 a1b u m0 G u) ?_)
  obtain⟨bT,aJ,aK⟩:=ob S
  refine A3 (wg u u m) u (A2 (vs:=[V3 C f i]) c5A u) (b3W F G.enter0 (af.mono y.le) aJ) ?_
  rintro bU bV ⟨aL,rfl,ah⟩
  refine⟨_,u,?_⟩
  have aM:=(G.c0 ah).t2
  refine lg m (A4 u) (lv (l9 u m u) (i8 ?_))
  cases oi aK
  exact qd ⟨aL,u,aM.f1,(y.le.trans ah.le)⟩
 rintro _ bW ⟨aN,rfl,q,s⟩
 refine l5 (D5 aF u (fun aO T=>?_) (fun aO T=>?_))
 ·refine sr (lv (O6 u) (nq (rr ?_)))
  cases oi T
  exact ey results64 ⟨aN,u,q.s⟩
 refine j3 (qr (lv (j6 (ds:=[V3 A a b,V3 B c d]) B9 u m0 q u u) (fl L3 u a1b m1 q u ?_)))
 obtain⟨bX,aP,aQ⟩:=ob T
 refine lk c3Q (b0P F q.enter0 (ad.mono s) (ae.mono s) (af.mono s) aP) ?_
 rintro bY bZ ⟨ai,aj,ak,am,an,ao,cs68,ca,rfl,U,cb,hrow69,hm70⟩
 have aR:=(q.c0 U).t4
 obtain⟨H,ap,V,aS⟩:=SH.freezeI aR.f1 hrow69 hm70
 refine al C4 aS fun W cc aT=>?_
 have aU:SH _ _ _ _ _ [s7 W [V3 none 0 0,V3 none 0 0] 30,_,_,_,_]:=aT
 refine lw [V3 ai aj ak,V3 am an ao] C4 aU fun cd I=>(O7 (fl M2 u a1e m0 I u (lv (q9 underlying28 u V) (fl M2 u a1e m4 I u (lv (q9 underlying28 u (ag.mono ((s.trans U.le).trans ap))) (lv (R2 u u) (nq (D5 aQ u (fun aV X=>?_) (fun aV X=>?_)))))))))
 ·refine sr (lv (O6 u) (nq (rr ?_)))
  cases oi X
  exact ey results64 ⟨H,u,I.s⟩
 refine j3 (qs (sr (lv (N2 u) (nq ?_))))
 obtain⟨aW,aX,J⟩:=ob X
 refine l4 (IE aW w K [] H [] []) ?_ ?_
 ·refine j7 ?_
  obtain⟨ce,aY,aq⟩:=ob aX
  have aZ:=I.f4.sb (sk (sk (sd (sd (sd sz)))))
  refine qw (fun (Y:Int)=>IW w K [] H [(3,pt o),(5,pt W),(6,V6 Y)] [s7 o [V3 C f i,V3 D k l] 30,s7 W [V3 ai aj ak,V3 am an ao] 30] (i7 Y)) aY ⟨H,u,aZ,kr,I5⟩ ?_
  rintro Y _ cf cg ba ar ⟨bb,rfl,aa,x,ch⟩
  refine o4 (sr (mv u (fl M2 u a1e m1 aa u (lv (q9 underlying28 u (V.mono x)) (lv (u7 u u) (nq (D5 ba u (fun bc ab=>?_) (fun bc ab=>?_))))))))
  ·refine j3 (qs (j7 (o4 (D4 mixed (by kernel_rfl) aa (kv (c7 M2 u) (kh (z6 a1e u m1 u) (km u ?_)))))))
   obtain⟨au,bd,be⟩:=ob ab
   refine ki underlying28 P2 (V.mono x) bd fun bf bg cj bh bi=>?_
   obtain⟨bj,bk,bl,rfl,bm,bn,bo⟩:=bh
   have bp:F1 _ bf bg [sv au.Field,sv au.Term,V3 bj bk bl]:=bi
   refine kh (a1C P2 u bp u) (kv (c7 M2 u) (kh (z6 a1e u m0 u) (km u ?_)))
   obtain⟨aw,bq,br⟩:=ob be
   refine ki underlying28 P2 (b7.mono (((s.trans U.le).trans ap).trans x) ag) bq fun bs bu ck bv bz=>?_
   obtain⟨bA,bB,bC,rfl,bD,bE,bF⟩:=bv
   have bG:F1 _ bs bu [sv aw.Field,sv aw.Term,V3 bA bB bC]:=bz
   refine kh (a1C P2 u bG u) ?_
   obtain⟨cl,bH,bI⟩:=ob br
   refine kc c5B (fun _ _ bJ ax=>(a9u F) bJ.enter0 bm bn (bo.mono ax) bD bE (bF.mono ax) bH) (kv (A4 u) (B4 ?_))
   rintro cm ⟨ay,az,bK⟩
   refine l5 (D5 bI u (fun bL ac=>?_) (fun bL ac=>?_))
   ·refine sr (lv (O6 u) (nq (j9 (i9 (c9 (c9 ?_))))))
    cases oi ac
    cases ar _ u
    refine i9 (c9 ?_)
    cases oi aq
    refine c9 ?_
    cases oi J
    exact ey results64 ⟨ay,u,az.s⟩
   refine j3 (x8 (l5 (j5 (mv u (lv (y7 u u) (av u (i8 ?_)))))))
   cases oi ac
   exact qd ⟨_,u,ay,u,az,(x.trans bK),(u0 _)⟩
  refine y4 (g8 (g8 ?_))
  cases oi ab
  cases ar _ u
  refine l6 ?_
  cases oi aq
  exact L6 ⟨_,bb,u,u,aa.s,x⟩ trivial
 rintro _ cn ⟨cp,bM,rfl,rfl,bN,cq⟩
 have J:=E9 J
 refine qr (lv (r_t u) (nq (j9 ?_)))
 cases oi J
 exact ey results64 ⟨bM,u,bN⟩

theorem a8x {q0:u6}{q1:r4}{r:r4}(hS:SH w K [] w K [])(C:b7 D9 K A a b q0.Stops)(D:b7 L0 K B c d q0.Syns)(G:q1.length≤maxLen)(hm:a3I F q0 q1=some r):
  Calls prog 88 #[.agg #[V3 A a b,V3 B c d],sv q1] w fun e w'=>∃K',e= .returned (sv r)∧SH w K [] w' K' []∧r.length≤maxLen:=by
 rw [a3I] at hm
 refine ci func88 u ntmps88 (sr (bx u hS fun k au S=>?_))
 have l:SH _ _ _ _ _ [s7 k [V3 A a b,V3 B c d] 26]:=S
 refine lv (r_s u) (ns (o4 ?_))
 obtain⟨T,U,V⟩:=ob hm
 refine l4 (IV w K [] K [(1,sv q1),(2,pt k),(13,.bool T)] [s7 k [V3 A a b,V3 B c d] 26]) ?_ ?_
 ·refine j5 (lv (j6 (ds:=[V3 A a b,V3 B c d]) B9 u m0 l u u) ?_)
  obtain⟨aw,W,X⟩:=ob U
  refine lk c3P (b0N F l.enter0 C D W) ?_
  rintro ax ay ⟨Y,rfl,m⟩
  have o:=(l.c0 m).t1
  refine lv (A4 u) (mv u (bt X (fun f q=>?_) (fun f q=>?_)))
  ·refine lu f (lu f (lu f (lv (J6 u f u) (i8 ?_))))
   cases oi q
   exact qd ⟨Y,u,o,m.le⟩
  refine lg f (i5 u) ?_
  obtain⟨az,aa,ab⟩:=ob q
  refine A3 (wg u u f) u (A2 (vs:=[sv q1]) b0m u) (H9 F o.enter0 G aa) ?_
  rintro aA aB ⟨ac,rfl,H⟩
  refine⟨_,u,?_⟩
  have ad:=(o.c0 H).t1
  refine lg f (A4 u) (lv (l9 u f u) (i8 ?_))
  cases oi ab
  exact qd ⟨ac,u,ad,(m.le.trans H.le)⟩
 rintro _ aC ⟨ae,rfl,i,I⟩
 refine l5 (D5 V u (fun af s=>?_) (fun af s=>?_))
 ·refine sr (lv (r_s u) (nq (rr ?_)))
  cases oi s
  exact ey results88 ⟨ae,u,i.s,(by decide :([]:r4).length≤maxLen)⟩
 refine j3 (qr (lv (j6 (ds:=[V3 A a b,V3 B c d]) B9 u m0 i u u) (mv u ?_)))
 obtain⟨aD,ag,ah⟩:=ob s
 refine lk b6s (a2j F i.enter0 (C.mono I) (D.mono I) G ag) ?_
 rintro aE aF ⟨aG,aH,aI,J,rfl,ai,O⟩
 have x:=(i.c0 ai).t2
 refine av u (O7 (mv u (lv (q9 underlying104 u O) (lv (A9 u u) (nq (D5 ah u (fun aj y=>?_) (fun aj y=>?_)))))))
 ·refine sr (lv (r_s u) (nq (rr ?_)))
  cases oi y
  exact ey results88 ⟨J,u,x.s,(by decide :([]:r4).length≤maxLen)⟩
 refine j3 (qr (mv u ?_))
 obtain⟨R,ak,al⟩:=ob y
 refine li underlying104 M3 O ak fun am an aJ ao ap=>?_
 obtain⟨rfl,aq,aK⟩:=ao
 have ar:F1 _ am an [sv R.Text,V6 R.At]:=ap
 refine fa a3Z u (lv (y9 G7 u x (ar 0 _ u)) (av u (nq (j9 ?_))))
 cases oi al
 exact ey results88 ⟨J,u,x.s,aq⟩

theorem b1D {q0:u6}{q1:A5}{q2:q7}{q3:Int}{r:(List (List Int))}(hS:SH w K [] w K [])(aS:b7 D9 K A a b q0.Stops)(aT:b7 L0 K B c d q0.Syns)(aU:b7 F6 K C f i q1.Docs)(aV:b7 B8 K D k l q1.Entries)(dg:i7 q2.Kind)(aW:q2.Field.length≤maxLen)(aX:b7 D9 K G m n q2.Words)(dh:i7 q2.From)(di:i7 q2.To)(dj:b7 F4 K H o p q2.Kids)(aY:i7 q3)(hm:a3Y F q0 q1 q2 q3=some r):
  Calls prog 174 #[.agg #[V3 A a b,V3 B c d],.agg #[V3 C f i,V3 D k l],.agg #[V6 q2.Kind,sv q2.Field,V3 G m n,V6 q2.From,V6 q2.To,V3 H o p],V6 q3] w fun e w'=>∃a_1 n_2 c_3 K',e= .returned (V3 a_1 n_2 c_3)∧SH w K [] w' K' [tail (V3 a_1 n_2 c_3) 46 1]∧b7 (X2 D6) K' a_1 n_2 c_3 r:=by
 rw [a3Y] at hm
 refine ci func174 u ntmps174 (sr (bx u hS fun aK dk aZ=>?_))
 have ba:SH _ _ _ _ _ [s7 aK [V3 A a b,V3 B c d] 26]:=aZ
 refine bx u ba fun J dl bb=>?_
 have bc:SH _ _ _ _ _ [s7 J [V3 C f i,V3 D k l] 30,_]:=bb
 refine bx u bc fun s dm bd=>?_
 have be:SH _ _ _ _ _ [s7 s [V6 q2.Kind,sv q2.Field,V3 G m n,V6 q2.From,V6 q2.To,V3 H o p] 35,_,_]:=bd
 refine lv (r_n u) (nr (a6j (X2 D6) wn u underlying195 a1g be fun bf dn bg ad bh bi=>(av u (ns ?_))))
 have ae:=bi.drew
 refine wh1 (fun w'=>H0 bg w'∧B0 aK [V3 A a b,V3 B c d] w'∧B0 s [V6 q2.Kind,sv q2.Field,V3 G m n,V6 q2.From,V6 q2.To,V3 H o p] w') (fun w'=>True) 6 [] mixed ⟨ae.hasK kr,ae.hasObj m3,ae.hasObj m1⟩ (fun _=>trivial) (gh (fun _ h=>A0 (ds:=[V3 A a b,V3 B c d]) B9 u u u h.2.1) (gt (c7 a0B u) (gh (fun _ h=>B5 W1 u u h.2.2) (gn ?_))))
 obtain⟨dp,bj,bk⟩:=ob hm
 refine lk c3Y (a7J F ae.enter0 (aX.mono ad) (by decide :([32]:r4).length≤maxLen) bj) ?_
 rintro dq dr ⟨dt,rfl,O,bl⟩
 have af:=(ae.c0 O).t4
 refine i8 (qh ⟨af.hasK O.le,af.hasObj m3,af.hasObj m1⟩ (fun _=>trivial) (gn ?_))
 obtain⟨du,bm,bn⟩:=ob bk
 refine lk b6s (a2j F af.enter0 (aS.mono (ad.trans O.le)) (aT.mono (ad.trans O.le)) bl bm) ?_
 rintro dv dw ⟨aA,aB,aC,aD,rfl,ag,aq⟩
 have ar:=(af.c0 ag).t5
 refine i8 (qh ⟨ar.hasK (O.le.trans ag.le),ar.hasObj m4,ar.hasObj m2⟩ (fun _=>trivial) (gt (u9 u) (gd' (qs (sr (lv (N2 u) (nq ?_)))))))
 obtain⟨bo,bp,bq⟩:=ob bn
 refine l4 (fun E' w'=>∃ah ai aj ak,E'=[(9,V3 ah ai aj)]∧SH w K [] w' ak [tail (V3 ah ai aj) 46 1]∧M0 aD ak∧b7 (X2 D6) ak ah ai aj bo) ?_ ?_
 ·refine j7 ?_
  obtain⟨dx,br,bs⟩:=ob bp
  have bu:=ar.f1.f2.f3.sb (sk (sk (sk (sd (sd sz)))))
  refine qw (fun (q:(List (List Int))×Int) E' w'=>∃x y I al,E'=[(3,V6 q3),(5,pt J),(6,pt s),(9,V3 x y I),(10,V3 aA aB aC),(11,V6 q.2)]∧SH w K [] w' al [s7 J [V3 C f i,V3 D k l] 30,s7 s [V6 q2.Kind,sv q2.Field,V3 G m n,V6 q2.From,V6 q2.To,V3 H o p] 35,tail (V3 x y I) 46 1]∧M0 aD al∧b7 (X2 D6) al x y I q.1∧i7 q.2) br ⟨bf,0,0,aD,u,bu,kr,(bh.mono (O.le.trans ag.le)),I5⟩ ?_
  rintro q _ dy dz bv bz ⟨x,y,I,al,rfl,aL,R,aM,dA⟩
  refine o4 (sr (mv u (mv u (lv (q9 underlying104 u (aq.mono R)) (lv (u7 u u) (nq (D5 bv u (fun bA aE=>?_) (fun bA aE=>?_))))))))
  ·refine j3 (qs (j7 (o4 (D4 mixed (by kernel_rfl) aL (km u (km u ?_))))))
   obtain⟨S,bB,bC⟩:=ob aE
   refine ki underlying104 M3 (aq.mono R) bB fun bD bE dB bF bG=>?_
   obtain⟨rfl,dC,dD⟩:=bF
   have bH:F1 _ bD bE [sv S.Text,V6 S.At]:=bG
   refine kv (c7 a30 u) (kh (C1 E6 u (bH 1 _ u)) (km u ?_))
   obtain⟨T,bI,bJ⟩:=ob bC
   refine ki underlying104 M3 (aq.mono R) bI fun bK bL dE bM bN=>?_
   obtain⟨rfl,dF,dG⟩:=bM
   have bO:F1 _ bK bL [sv T.Text,V6 T.At]:=bN
   refine kv (c7 a30 u) (kh (C1 E6 u (bO 1 _ u)) (kv (I6 u u) (km u (kv (I6 u u) (kv (u9 u) (B4 ?_))))))
   rintro dH ⟨bP,bQ,am⟩
   refine qs ?_
   have an:=bQ.drew
   refine wh1 (fun w'=>H0 bP w'∧B0 J [V3 C f i,V3 D k l] w'∧B0 s [V6 q2.Kind,sv q2.Field,V3 G m n,V6 q2.From,V6 q2.To,V3 H o p] w') (fun w'=>True) 11 [] mixed ⟨an.hasK kr,an.hasObj m0,an.hasObj m1⟩ (fun _=>trivial) (gh (fun _ h=>A0 (ds:=[V3 C f i,V3 D k l]) C4 u u u h.2.1) (gt (c7 Z3 u) (gh (fun _ h=>B5 G7 u u h.2.2) (gt (i5 u) (gt (i5 u) ?_)))))
   obtain⟨aN,bR,bS⟩:=ob bJ
   refine gi underlying104 M3 (aq.mono (R.trans am)) bR fun bT bU dI bV bW=>?_
   obtain⟨rfl,bX,dJ⟩:=bV
   have bY:F1 _ bT bU [sv aN.Text,V6 aN.At]:=bW
   refine gt (c7 a3Z u) (gh (fun _ h=>a0Y G7 u (bY 0 _ u) h.1) (gt (i5 u) (gn ?_)))
   obtain⟨dK,bZ,ca⟩:=ob bS
   refine lk c1C (a6F F an.enter0 (b7.mono ((((ad.trans O.le).trans ag.le).trans R).trans am) aU) (b7.mono ((((ad.trans O.le).trans ag.le).trans R).trans am) aV) aW bX aY bZ) ?_
   rintro dL dM ⟨cb,cc,cd,dN,rfl,au,aF⟩
   have aw:=(an.c0 au).t3
   refine i8 (qh ⟨aw.hasK au.le,aw.hasObj m0,aw.hasObj m1⟩ (fun _=>trivial) (gt (u9 u) (gd' (qr (b0 D6 underlying46 E6 aw fun ce dO aG ao cf cg=>(av u (O7 (lv (N2 u) (nq ?_)))))))))
   obtain⟨aO,ch,cj⟩:=ob ca
   refine l4 (fun E' w'=>∃U V W ax,E'=[(3,V6 q3),(5,pt J),(6,pt s),(9,V3 x y I),(10,V3 aA aB aC),(11,V6 q.2),(14,V3 U V W)]∧SH w K [] w' ax [s7 J [V3 C f i,V3 D k l] 30,s7 s [V6 q2.Kind,sv q2.Field,V3 G m n,V6 q2.From,V6 q2.To,V3 H o p] 35,tail (V3 x y I) 46 1,tail (V3 U V W) 3 1]∧M0 aG ax∧b7 D6 ax U V W aO) ?_ ?_
   ·refine j7 ?_
    obtain⟨dP,ck,cl⟩:=ob ch
    refine qw (fun (ay:(List Int)×Int) E' w'=>∃X Y aa ab,E'=[(3,V6 q3),(5,pt J),(6,pt s),(9,V3 x y I),(10,V3 aA aB aC),(11,V6 q.2),(12,V6 (z8 ((z8 (S.At-T.At))-q.2))),(13,V3 cb cc cd),(14,V3 X Y aa),(15,V6 ay.2)]∧SH w K [] w' ab [s7 J [V3 C f i,V3 D k l] 30,s7 s [V6 q2.Kind,sv q2.Field,V3 G m n,V6 q2.From,V6 q2.To,V3 H o p] 35,tail (V3 x y I) 46 1,tail (V3 X Y aa) 3 1]∧M0 aG ab∧b7 D6 ab X Y aa ay.1∧i7 ay.2) ck ⟨ce,0,0,aG,u,cg.f3.f3.f3,kr,cf,I5⟩ ?_
    rintro ay _ dQ dR cm cn ⟨X,Y,aa,ab,rfl,ap,ac,aH,dS⟩
    refine o4 (sr (mv u (mv u (lv (q9 underlying46 u (aF.mono (ao.trans ac))) (lv (u7 u u) (nq (D5 cm u (fun cp aI=>?_) (fun cp aI=>?_))))))))
    ·refine j3 (qs (j7 (sr (mv u (mv u ?_)))))
     obtain⟨cq,cr,cs⟩:=ob aI
     refine li underlying46 E6 (aF.mono (ao.trans ac)) cr fun ct cu dT cv cw=>?_
     obtain⟨rfl,dU⟩:=cv
     have cx:F1 _ ct cu [V6 cq]:=cw
     refine lv (y9 E6 u ap (cx 0 _ u)) (mv u (lv (a3B u u) (nq (D5 cs u (fun cy aJ=>?_) (fun cy aJ=>?_)))))
     ·refine j5 (mv u (mv u (mv u ?_)))
      obtain⟨az,cz,cA⟩:=ob aJ
      refine li underlying46 E6 (aF.mono (ao.trans ac)) cz fun cB cC dV cD cE=>?_
      obtain⟨rfl,dW⟩:=cD
      have cF:F1 _ cB cC [V6 az]:=cE
      refine lv (y9 E6 u ap (cF 0 _ u)) (mv u (lv (I6 u u) (lb D6 (V6 (z8 (az-(z8 ((z8 (S.At-T.At))-q.2))))) [V6 (z8 (az-(z8 ((z8 (S.At-T.At))-q.2))))] (z8 (az-(z8 ((z8 (S.At-T.At))-q.2)))) underlying46 E6 ⟨u,(u0 _)⟩ ap fun dX dY dZ aP cG cH=>?_)))
      obtain⟨ea,cI,cJ⟩:=ob cA
      refine lp underlying46 E6 (aH.mono aP) cG cI cH.f4 fun cK cL cM eb cN cO cP cQ=>(av u (nb (l5 (j5 (mv u (lv (y7 u u) (av u (i8 ?_))))))))
      cases oi cJ
      exact qd ⟨_,u,cK,cL,cM,cN,u,cQ.f4.f4.f4.s,((ac.trans aP).trans cO),cP,(u0 _)⟩
     refine j3 (x8 (l5 (j5 (mv u (lv (y7 u u) (av u (i8 ?_)))))))
     cases oi aJ
     exact qd ⟨_,u,X,Y,aa,ab,u,ap,ac,aH,(u0 _)⟩
    refine y4 (g8 (g8 ?_))
    cases oi aI
    cases cn _ u
    refine l6 ?_
    cases oi cl
    exact qd ⟨X,Y,aa,ab,u,ap,ac,aH⟩
   rintro _ ec ⟨U,V,W,ax,rfl,cR,aQ,cS⟩
   refine l5 (j5 (mv u (mv u (lb (X2 D6) (V3 U V W) [V3 U V W] aO underlying195 a1g ⟨_,_,_,u,cS⟩ cR fun ed ee ef aR cT cU=>?_))))
   obtain⟨eg,cV,cW⟩:=ob cj
   refine lp underlying195 a1g (b7.mono ((((am.trans au.le).trans ao).trans aQ).trans aR) aM) cT cV cU.f3 fun cX cY cZ eh da db dc dd=>(av u (nb (l5 (j5 (mv u (lv (y7 u u) (av u (i8 ?_))))))))
   cases oi cW
   exact qd ⟨_,u,cX,cY,cZ,da,u,dd.f3.f3.s,((((((R.trans am).trans au.le).trans ao).trans aQ).trans aR).trans db),dc,(u0 _)⟩
  refine y4 (g8 (g8 ?_))
  cases oi aE
  cases bz _ u
  refine l6 ?_
  cases oi bs
  exact qd ⟨x,y,I,al,u,aL.s,R,aM⟩
 rintro _ ei ⟨ah,ai,aj,ak,rfl,de,ej,df⟩
 refine qr (mv u (av u (nq (j9 ?_))))
 cases oi bq
 exact ey results174 ⟨ah,ai,aj,ak,u,de,df⟩

theorem b0M {q0:u6}{q1:A5}{q2:q7}{q3:Int}{r:Int}(hS:SH w K [] w K [])(al:b7 D9 K A a b q0.Stops)(am:b7 L0 K B c d q0.Syns)(ab:b7 F6 K C f i q1.Docs)(ac:b7 B8 K D k l q1.Entries)(aB:i7 q2.Kind)(ad:q2.Field.length≤maxLen)(an:b7 D9 K G m n q2.Words)(ao:i7 q2.From)(aC:i7 q2.To)(aD:b7 F4 K H o p q2.Kids)(ae:i7 q3)(hm:a1q F q0 q1 q2 q3=some r):
  Calls prog 131 #[.agg #[V3 A a b,V3 B c d],.agg #[V3 C f i,V3 D k l],.agg #[V6 q2.Kind,sv q2.Field,V3 G m n,V6 q2.From,V6 q2.To,V3 H o p],V6 q3] w (R_i w K r):=by
 rw [a1q] at hm
 refine ci func131 u ntmps131 (sr (bx u hS fun W bE aE=>?_))
 have aF:SH _ _ _ _ _ [s7 W [V3 A a b,V3 B c d] 26]:=aE
 refine bx u aF fun R bF aG=>?_
 have aH:SH _ _ _ _ _ [s7 R [V3 C f i,V3 D k l] 30,_]:=aG
 refine bx u aH fun J bG aI=>?_
 have S:SH _ _ _ _ _ [s7 J [V6 q2.Kind,sv q2.Field,V3 G m n,V6 q2.From,V6 q2.To,V3 H o p] 35,_,_]:=aI
 refine lv (N2 u) (nr (lv (j6 (ds:=[V3 A a b,V3 B c d]) B9 u m2 S u u) (lv (j6 (ds:=[V3 C f i,V3 D k l]) C4 u m1 S u u) (lv (j6 (ds:=[V6 q2.Kind,sv q2.Field,V3 G m n,V6 q2.From,V6 q2.To,V3 H o p]) B1 u m0 S u u) (mv u ?_)))))
 obtain⟨bH,aJ,aK⟩:=ob hm
 refine lk c55 (b1D F S.enter0 al am ab ac aB ad an ao aC aD ae aJ) ?_
 rintro bI bJ ⟨bK,bL,bM,aL,rfl,s,ap⟩
 have X:=(S.c0 s).t4
 refine av u (O7 (mv u (lv (q9 (t:=(X2 D6)) underlying195 u ap) (lv (A9 u u) (nq (D5 aK u (fun aM af=>?_) (fun aM af=>?_)))))))
 ·refine sr (lv (N2 u) (nq (rr ?_)))
  cases oi af
  exact ey results131 ⟨aL,u,X.s,I5⟩
 refine j3 (qr (mv u (fl a1w u E6 m1 X u ?_)))
 obtain⟨bN,aN,aO⟩:=ob af
 refine lk c56 (b1C F X.enter0 ap ao aN) ?_
 rintro bO bP ⟨bQ,bR,bS,ag,rfl,x,aq⟩
 have ar:=(X.c0 x).t5
 refine lv (q9 underlying46 u aq) (av u (O7 (mv u (lv (E7 u u) (nq ?_)))))
 obtain⟨Y,aP,aQ⟩:=ob aO
 refine l4 (IW w K [] ag [(3,V6 q3),(4,pt W),(5,pt R),(6,pt J),(10,V6 Y)] [s7 W [V3 A a b,V3 B c d] 26,s7 R [V3 C f i,V3 D k l] 30,s7 J [V6 q2.Kind,sv q2.Field,V3 G m n,V6 q2.From,V6 q2.To,V3 H o p] 35] (i7 Y)) ?_ ?_
 ·refine D5 aP u (fun aR ah=>?_) (fun aR ah=>?_)
  ·refine j5 (lv (u9 (v:=V6 3) u) (i8 ?_))
   cases oi ah
   exact qd ⟨ag,u,ar.f2.f3.f4.s,kr,(by decide :i7 3)⟩
  refine j3 ?_
  cases oi ah
  exact qd ⟨ag,u,ar.f2.f3.f4.s,kr,aq.rn⟩
 rintro _ bT ⟨aS,rfl,aT,I,bU⟩
 refine qr (lv (N2 u) (ns ?_))
 have T:=aT.drew
 refine wh1 (fun w'=>H0 aS w'∧B0 W [V3 A a b,V3 B c d] w'∧B0 J [V6 q2.Kind,sv q2.Field,V3 G m n,V6 q2.From,V6 q2.To,V3 H o p] w') (fun w'=>True) 6 [] mixed ⟨T.hasK kr,T.hasObj m0,T.hasObj m2⟩ (fun _=>trivial) (gh (fun _ h=>A0 (ds:=[V3 A a b,V3 B c d]) B9 u u u h.2.1) (gt (c7 a0B u) (gh (fun _ h=>B5 W1 u u h.2.2) (gn ?_))))
 obtain⟨bV,aU,aV⟩:=ob aQ
 refine lk c3Y (a7J F T.enter0 (an.mono ((s.le.trans x.le).trans I)) (by decide :([32]:r4).length≤maxLen) aU) ?_
 rintro bW bX ⟨bY,rfl,q,aW⟩
 have U:=(T.c0 q).t3
 refine i8 (qh ⟨U.hasK q.le,U.hasObj m0,U.hasObj m2⟩ (fun _=>trivial) (gn ?_))
 obtain⟨bZ,aX,aY⟩:=ob aV
 refine lk b6s (a2j F U.enter0 (b7.mono (((s.le.trans x.le).trans I).trans q.le) al) (b7.mono (((s.le.trans x.le).trans I).trans q.le) am) aW aX) ?_
 rintro ca cb ⟨aZ,ba,bb,ai,rfl,O,au⟩
 have aa:=(U.c0 O).t4
 refine i8 (qh ⟨aa.hasK (q.le.trans O.le),aa.hasObj m1,aa.hasObj m3⟩ (fun _=>trivial) (gt (u9 u) (gd' (qs (sr (lv (N2 u) (nq ?_)))))))
 obtain⟨aw,bc,bd⟩:=ob aY
 refine l4 (IW w K [] ai [(10,V6 Y),(11,V6 aw)] [] (i7 aw)) ?_ ?_
 ·refine j7 ?_
  obtain⟨cc,be,bf⟩:=ob bc
  have bg:=aa.sb (sd (sd (sk (sk sz))))
  refine qw (fun (V:Int×Int)=>IW w K [] ai [(3,V6 q3),(5,pt R),(6,pt J),(10,V6 Y),(11,V6 V.1),(12,V3 aZ ba bb),(13,V6 V.2)] [s7 R [V3 C f i,V3 D k l] 30,s7 J [V6 q2.Kind,sv q2.Field,V3 G m n,V6 q2.From,V6 q2.To,V3 H o p] 35] (i7 V.1∧i7 V.2)) be ⟨ai,u,bg,kr,I5,I5⟩ ?_
  rintro V _ cd ce bh bi ⟨bj,rfl,aj,y,bk,cf⟩
  refine o4 (sr (mv u (mv u (lv (q9 underlying104 u (au.mono y)) (lv (u7 u u) (nq (D5 bh u (fun bl ak=>?_) (fun bl ak=>?_))))))))
  ·refine j3 (qs (j7 (D4 mixed (by kernel_rfl) aj (km u (kh (D8 (ds:=[V3 C f i,V3 D k l]) C4 u m0 u u) (kv (c7 Z3 u) (kh (z6 G7 u m1 u) (km u (km u ?_)))))))))
   obtain⟨ax,bm,bn⟩:=ob ak
   refine ki underlying104 M3 (au.mono y) bm fun bo bp cg bq br=>?_
   obtain⟨rfl,ay,ch⟩:=bq
   have bs:F1 _ bo bp [sv ax.Text,V6 ax.At]:=br
   refine kv (c7 a3Z u) (kh (C1 G7 u (bs 0 _ u)) (km u ?_))
   obtain⟨cj,az,bu⟩:=ob bn
   refine kd c1y (fun _ _ bv aA=>(a0W F) bv.enter0 (b7.mono ((((((s.le.trans x.le).trans I).trans q.le).trans O.le).trans y).trans aA) ab) (b7.mono ((((((s.le.trans x.le).trans I).trans q.le).trans O.le).trans y).trans aA) ac) ad ay ae az) ?_
   obtain⟨_,_,_,⟨_,_,_,ck⟩,_⟩:=(a0W F) aj.enter0 (b7.mono (((((s.le.trans x.le).trans I).trans q.le).trans O.le).trans y) ab) (b7.mono (((((s.le.trans x.le).trans I).trans q.le).trans O.le).trans y) ac) ad ay ae az []
   refine kv (y7 u u) (kv (u9 u) (B4 ?_))
   rintro cl ⟨bz,bA,bB⟩
   refine x8 (l5 (j5 (mv u (lv (y7 u u) (av u (i8 ?_))))))
   cases oi bu
   exact qd ⟨_,u,bz,u,bA,(y.trans bB),(u0 _),(u0 _)⟩
  refine y4 (g8 (g8 ?_))
  cases oi ak
  cases bi _ u
  refine l6 ?_
  cases oi bf
  exact qd ⟨bj,u,aj.s,y,bk⟩
 rintro _ cm ⟨bC,rfl,bD,cn,cp⟩
 refine qr (mv u (mv u (lv (U4 u u) (av u (nq (j9 ?_))))))
 cases oi bd
 exact ey results131 ⟨bC,u,bD,(u0 _)⟩

theorem b2G {q0:A5}{q1:q7}{q2:Int}{r:Int}(hS:SH w K [] w K [])(an:b7 F6 K A a b q0.Docs)(R:b7 B8 K B c d q0.Entries)(bm:i7 q1.Kind)(ao:q1.Field.length≤maxLen)(ap:b7 D9 K C f i q1.Words)(bn:i7 q1.From)(bo:i7 q1.To)(bp:b7 F4 K D k l q1.Kids)(aq:i7 q2)(hm:a2L F q0 q1 q2=some r):
  Calls prog 132 #[.agg #[V3 A a b,V3 B c d],.agg #[V6 q1.Kind,sv q1.Field,V3 C f i,V6 q1.From,V6 q1.To,V3 D k l],V6 q2] w (R_i w K r):=by
 rw [a2L] at hm
 refine ci func132 u ntmps132 (sr (bx u hS fun y bq ar=>?_))
 have au:SH _ _ _ _ _ [s7 y [V3 A a b,V3 B c d] 30]:=ar
 refine bx u au fun G br aw=>?_
 have ax:SH _ _ _ _ _ [s7 G [V6 q1.Kind,sv q1.Field,V3 C f i,V6 q1.From,V6 q1.To,V3 D k l] 35,_]:=aw
 refine lv (N2 u) (nr (lv (N2 u) (O7 (lv (N2 u) (nq ?_)))))
 obtain⟨af,ay,az⟩:=ob hm
 refine l4 (IW w K [] K [(7,V6 af)] [] (i7 af)) ?_ ?_
 ·refine j7 ?_
  obtain⟨bs,aA,aB⟩:=ob ay
  refine qw (fun (q:Int×Int)=>IW w K [] K [(2,V6 q2),(3,pt y),(4,pt G),(7,V6 q.1),(8,V6 q.2)] [s7 y [V3 A a b,V3 B c d] 30,s7 G [V6 q1.Kind,sv q1.Field,V3 C f i,V6 q1.From,V6 q1.To,V3 D k l] 35] (i7 q.1∧i7 q.2)) aA ⟨K,u,ax.f1,kr,I5,I5⟩ ?_
  rintro q _ bu bv aC aD ⟨aE,rfl,H,o,S,bz⟩
  refine o4 (sr (mv u (fl M2 u a1e m0 H u (lv (q9 underlying28 u (R.mono o)) (lv (u7 u u) (nq (D5 aC u (fun aF T=>?_) (fun aF T=>?_))))))))
  ·refine j3 (qs (j7 (sr (fl M2 u a1e m0 H u (mv u ?_)))))
   obtain⟨s,aG,aH⟩:=ob T
   refine li underlying28 P2 (R.mono o) aG fun aI aJ bA aK aL=>?_
   obtain⟨U,V,W,rfl,bB,X,bC⟩:=aK
   have aM:F1 _ aI aJ [sv s.Field,sv s.Term,V3 U V W]:=aL
   refine lv (F3 P2 u H aM u) (al P2 H fun Y bD aN=>?_)
   have aO:SH _ _ _ _ _ [s7 Y [sv [],sv [],V3 none 0 0] 99,_,_]:=aN
   refine lw [sv s.Field,sv s.Term,V3 U V W] P2 aO fun bE ag=>(ns (D4 mixed (by kernel_rfl) ag (kv (c7 a21 u) (kh (z6 G7 u m0 u) (kv (c7 a0B u) (kh (z6 W1 u m2 u) ?_))))))
   obtain⟨aP,aQ,aR⟩:=ob aH
   refine ki underlying23 G7 (ap.mono o) aQ fun aS aT bF aU aV=>?_
   obtain⟨rfl,ah⟩:=aU
   have aW:F1 _ aS aT [sv aP]:=aV
   refine kh (C1 G7 u (aW 0 _ u)) ?_
   obtain⟨aX,ai,aY⟩:=ob aR
   refine kd c57 (fun _ _ aZ bG=>(a9D F) aZ.enter0 X ah ai) ?_
   obtain⟨_,_,_,⟨_,_,_,bH⟩,_⟩:=(a9D F) ag.enter0 X ah ai []
   refine kv (u9 u) (B4 ?_)
   rintro bI ⟨aa,I,J⟩
   refine qs (o4 ?_)
   obtain⟨ba,bb,bc⟩:=ob aY
   refine l4 (IV w K [] aa [(2,V6 q2),(3,pt y),(4,pt G),(7,V6 q.1),(8,V6 q.2),(9,pt Y),(10,V6 aX),(41,.bool ba)] [s7 y [V3 A a b,V3 B c d] 30,s7 G [V6 q1.Kind,sv q1.Field,V3 C f i,V6 q1.From,V6 q1.To,V3 D k l] 35,s7 Y [sv s.Field,sv s.Term,V3 U V W] 99]) ?_ ?_
   ·refine j5 (fl a3z u G7 m0 I u (fl Z3 u G7 m2 I u (lv (a2C u u) (mv u (bt bb (fun m ab=>?_) (fun m ab=>?_))))))
    ·refine lu m (lu m (lu m (lu m (lv (J6 u m u) (i8 ?_)))))
     cases oi ab
     exact qd ⟨aa,u,I.f2.f2,kr⟩
    refine lg m (i5 u) (lg m (c7 a1w u) (lg m (w8 E6 u m2 I u) (lg m (E7 u u) (lv (l9 u m u) (i8 ?_)))))
    cases oi ab
    exact qd ⟨aa,u,I.f2.f2,kr⟩
   rintro _ bJ ⟨bd,rfl,x,O⟩
   refine l5 (D5 bc u (fun be ac=>?_) (fun be ac=>?_))
   ·refine y4 (g8 (l6 (l5 (j5 (mv u (lv (y7 u u) (av u (i8 ?_))))))))
    cases oi ac
    exact qd ⟨_,u,bd,u,x.s,((o.trans J).trans O),S,(u0 _)⟩
   refine j3 (qr (lv (j6 (ds:=[V3 A a b,V3 B c d]) C4 u m0 x u u) (fl Z3 u G7 m1 x u (fl a21 u G7 m2 x u (mv u ?_)))))
   obtain⟨bK,bf,bg⟩:=ob ac
   refine lk c1y (a0W F x.enter0 (an.mono ((o.trans J).trans O)) (R.mono ((o.trans J).trans O)) ao X aq bf) ?_
   rintro bL bM ⟨aj,rfl,ad,bN⟩
   have ak:=(x.c0 ad).t3
   refine mv u (lv (I6 u u) (lv (U4 u u) ?_))
   obtain⟨bO,am,bh⟩:=ob bg
   refine lv (a4D u u am) (av u (nr (mv u (mv u (lv (E7 u u) (nq (D5 bh u (fun bi ae=>?_) (fun bi ae=>?_))))))))
   ·refine j5 (mv u (av u (nb (l5 (j5 (mv u (lv (y7 u u) (av u (i8 ?_)))))))))
    cases oi ae
    exact qd ⟨_,u,aj,u,ak.s,(((o.trans J).trans O).trans ad.le),(a32 am),(u0 _)⟩
   refine j3 (x8 (l5 (j5 (mv u (lv (y7 u u) (av u (i8 ?_)))))))
   cases oi ae
   exact qd ⟨_,u,aj,u,ak.s,(((o.trans J).trans O).trans ad.le),S,(u0 _)⟩
  refine y4 (g8 (g8 ?_))
  cases oi T
  cases aD _ u
  refine l6 ?_
  cases oi aB
  exact qd ⟨aE,u,H.s,o,S⟩
 rintro _ bP ⟨bj,rfl,bk,bQ,bl⟩
 refine qr (mv u (av u (nq (j9 ?_))))
 cases oi az
 exact ey results132 ⟨bj,u,bk,bl⟩

theorem a1A (F:Nat): ∀{w:World} {K:F9} {q:Option Addr} {s x:Nat} {y:Option Addr} {A B:Nat} {b:Option Addr} {c d:Nat} {f:Option Addr} {i k:Nat} {H:Option Addr} {I J:Nat} {O:Option Addr} {R S:Nat} {q0:u6} {q1:A5} {q2:q7} {q3:Int} {r:Int} (hS:SH w K [] w K []) (C:b7 D9 K q s x q0.Stops) (D:b7 L0 K y A B q0.Syns) (l:b7 F6 K b c d q1.Docs) (m:b7 B8 K f i k q1.Entries) (ao:i7 q2.Kind) (W:q2.Field.length≤maxLen) (af:b7 D9 K H I J q2.Words) (ag:i7 q2.From) (ah:i7 q2.To) (T:b7 F4 K O R S q2.Kids) (o:i7 q3) (hm:G1 F q0 q1 q2 q3=some r),
  Calls prog 73 #[.agg #[V3 q s x,V3 y A B],.agg #[V3 b c d,V3 f i k],.agg #[V6 q2.Kind,sv q2.Field,V3 H I J,V6 q2.From,V6 q2.To,V3 O R S],V6 q3] w (R_i w K r):=by
 induction F with
 | zero=>intros;rename_i hm;rw [G1] at hm;cases hm
 | succ F ih=>
  intro w K q s x y A B b c d f i k H I J O R S q0 q1 q2 q3 r hS C D l m ao W af ag ah T o hm
  rw [G1] at hm
  refine ci func73 u ntmps73 (sr (bx u hS fun ai eH bL=>?_))
  have bM:SH _ _ _ _ _ [s7 ai [V3 q s x,V3 y A B] 26]:=bL
  refine bx u bM fun Y eI bN=>?_
  have bO:SH _ _ _ _ _ [s7 Y [V3 b c d,V3 f i k] 30,_]:=bN
  refine bx u bO fun aa eJ bP=>?_
  have a:SH _ _ _ _ _ [s7 aa [V6 q2.Kind,sv q2.Field,V3 H I J,V6 q2.From,V6 q2.To,V3 O R S] 35,_,_]:=bP
  refine lv (N2 u) (O7 (fl a6x u E6 m0 a u (nq (j7 (sr (lv (A9 u u) (av u (nq (R9 u (fun aC=>?_) (fun aC=>?_))))))))))
  ·have aD:=a1a aC hm
   refine sr (lv (u9 (v:=V6 100) u) (nq (j9 (i9 (c9 ?_)))))
   cases oi aD
   exact ey results73 ⟨K,u,a.s,(by decide :i7 100)⟩
  have aD:=a09 aC hm
  refine sr (lv (A9 u u) (av u (nq (D5 aD u (fun bQ aE=>?_) (fun bQ aE=>?_)))))
  ·refine o4 (D4 mixed (by kernel_rfl) a (kh (D8 (ds:=[V3 b c d,V3 f i k]) C4 u m1 u u) (kv (c7 Z3 u) (kh (z6 G7 u m0 u) (kh (D8 (ds:=[V3 q s x,V3 y A B]) B9 u m2 u u) (kv (c7 a0B u) (kh (z6 W1 u m0 u) ?_)))))))
   obtain⟨bR,bS,bT⟩:=ob aE
   refine ki underlying23 G7 af bS fun bU bV eK bW bX=>?_
   obtain⟨rfl,aT⟩:=bW
   have bY:F1 _ bU bV [sv bR]:=bX
   refine kh (C1 G7 u (bY 0 _ u)) ?_
   obtain⟨eL,aU,bZ⟩:=ob bT
   refine kd c67 (fun _ _ ca aV=>(a8x F) ca.enter0 (C.mono aV) (D.mono aV) aT aU) ?_
   obtain⟨_,_,_,⟨_,_,_,aW⟩,_⟩:=(a8x F) a.enter0 C D aT aU []
   refine km u ?_
   obtain⟨eM,aX,cb⟩:=ob bZ
   refine kd c1y (fun _ _ cc aY=>(a0W F) cc.enter0 (l.mono aY) (m.mono aY) W aW o aX) ?_
   obtain⟨_,_,_,⟨_,_,_,cd⟩,_⟩:=(a0W F) a.enter0 l m W aW o aX []
   refine kv (u9 u) (B4 ?_)
   rintro eN ⟨ce,cf,eO⟩
   refine l5 (j9 (i9 (c9 ?_)))
   cases oi cb
   exact ey results73 ⟨ce,u,cf.s,cd⟩
  refine sr (lv (A9 u u) (av u (nq (D5 aE u (fun cg aF=>?_) (fun cg aF=>?_)))))
  ·refine sr (lv (j6 (ds:=[V3 q s x,V3 y A B]) B9 u m2 a u u) (lv (j6 (ds:=[V3 b c d,V3 f i k]) C4 u m1 a u u) (lv (j6 (ds:=[V6 q2.Kind,sv q2.Field,V3 H I J,V6 q2.From,V6 q2.To,V3 O R S]) B1 u m0 a u u) (mv u ?_))))
   obtain⟨eP,ch,cj⟩:=ob aF
   refine lk c5F (b0M F a.enter0 C D l m ao W af ag ah T o ch) ?_
   rintro eQ eR ⟨ck,rfl,cl,cm⟩
   have cn:=(a.c0 cl).t3
   refine av u (nq (j9 (i9 (c9 ?_))))
   cases oi cj
   exact ey results73 ⟨ck,u,cn.s,cm⟩
  refine sr (lv (A9 u u) (av u (nq (D5 aF u (fun cp aG=>?_) (fun cp aG=>?_)))))
  ·refine sr (lv (j6 (ds:=[V3 b c d,V3 f i k]) C4 u m1 a u u) (lv (j6 (ds:=[V6 q2.Kind,sv q2.Field,V3 H I J,V6 q2.From,V6 q2.To,V3 O R S]) B1 u m0 a u u) (mv u ?_)))
   obtain⟨eS,cq,cr⟩:=ob aG
   refine lk c5G (b2G F a.enter0 l m ao W af ag ah T o cq) ?_
   rintro eT eU ⟨cs,rfl,ct,cu⟩
   have cv:=(a.c0 ct).t3
   refine av u (nq (j9 (i9 (c9 ?_))))
   cases oi cr
   exact ey results73 ⟨cs,u,cv.s,cu⟩
  refine sr (lv (A9 u u) (av u (nq (D5 aG u (fun cw aH=>?_) (fun cw aH=>?_)))))
  ·refine sr (lv (j6 (ds:=[V3 b c d,V3 f i k]) C4 u m1 a u u) (lv (j6 (ds:=[V6 q2.Kind,sv q2.Field,V3 H I J,V6 q2.From,V6 q2.To,V3 O R S]) B1 u m0 a u u) (mv u ?_)))
   obtain⟨eV,cx,cy⟩:=ob aH
   refine lk c5H (b2F F a.enter0 l m ao W af ag ah T o cx) ?_
   rintro eW eX ⟨eY,rfl,cz⟩
   have aZ:=(a.c0 cz).t3
   obtain⟨eZ,cA,cB⟩:=ob cy
   refine lk c3T (a7K F aZ.enter0 cA) ?_
   rintro fb fc ⟨cC,rfl,cD,cE⟩
   have cF:=(aZ.c0 cD).t3
   refine av u (nq (j9 (i9 (c9 ?_))))
   cases oi cB
   exact ey results73 ⟨cC,u,cF.s,cE⟩
  refine sr (lv (A9 u u) (av u (nq (D5 aH u (fun cG aI=>?_) (fun cG aI=>?_)))))
  ·refine o4 ?_
   have aj:=a.drew
   refine j_0 (fun w'=>H0 K w'∧B0 Y [V3 b c d,V3 f i k] w'∧B0 aa [V6 q2.Kind,sv q2.Field,V3 H I J,V6 q2.From,V6 q2.To,V3 O R S] w') 13 [] mixed ⟨aj.hasK kr,aj.hasObj m1,aj.hasObj m0⟩ (jh 0 u (fun _ h=>A0 (ds:=[V3 b c d,V3 f i k]) C4 u u u h.2.1) (jv 1 u (i5 u) (jv 3 u (c7 Z3 u) (jh 4 u (fun _ h=>B5 G7 u u h.2.2) (jv 6 u (c7 a1w u) (jh 7 u (fun _ h=>B5 E6 u u h.2.2) (jv 8 u (c7 a4L u) (jh 9 u (fun _ h=>B5 E6 u u h.2.2) (j1 2 u ?_)))))))))
   obtain⟨fd,cH,cI⟩:=ob aI
   refine lk c6B (a8y F aj.enter0 l m o cH) ?_
   rintro fe fg ⟨fh,fi,fj,fk,fm,fn,fo,rfl,ak,cJ,cK,cL⟩
   have al:=(aj.c0 ak).t3
   refine P0 ⟨al.hasK ak.le,al.hasObj m1,al.hasObj m0⟩ (j1 5 u ?_)
   obtain⟨fp,cM,cN⟩:=ob cI
   refine lk c5I (b4J F al.enter0 cJ cK cL W cM) ?_
   rintro fq fr ⟨fs,rfl,ap,cO⟩
   have am:=(al.c0 ap).t3
   refine P0 ⟨am.hasK (ak.le.trans ap.le),am.hasObj m1,am.hasObj m0⟩ (j1 10 u ?_)
   obtain⟨ft,cP,cQ⟩:=ob cN
   refine lk a7T (I9 F am.enter0 cO ag ah cP) ?_
   rintro fu fv ⟨fw,rfl,aJ⟩
   have an:=(am.c0 aJ).t3
   refine P0 ⟨an.hasK ((ak.le.trans ap.le).trans aJ.le),an.hasObj m1,an.hasObj m0⟩ (j1 11 u ?_)
   obtain⟨fx,cR,cS⟩:=ob cQ
   refine lk c3T (a7K F an.enter0 cR) ?_
   rintro fy fz ⟨cT,rfl,ba,cU⟩
   have aq:=(an.c0 ba).t3
   refine P0 ⟨aq.hasK (((ak.le.trans ap.le).trans aJ.le).trans ba.le),aq.hasObj m1,aq.hasObj m0⟩ (jv 12 u (u9 u) (jd (l5 (j9 (i9 (c9 ?_))))))
   cases oi cS
   exact ey results73 ⟨cT,u,aq.s,cU⟩
  refine sr (lv (A9 u u) (av u (nq (D5 aI u (fun cV aK=>?_) (fun cV aK=>?_)))))
  ·refine o4 (D4 mixed (by kernel_rfl) a (kv (c7 a1w u) (kh (z6 E6 u m0 u) (kh (D8 (ds:=[V3 q s x,V3 y A B]) B9 u m2 u u) (kh (D8 (ds:=[V3 b c d,V3 f i k]) C4 u m1 u u) (kv (c7 W9 u) (kh (z6 a5u u m0 u) ?_)))))))
   obtain⟨ar,cW,cX⟩:=ob aK
   refine ki underlying33 B1 T cW fun cY cZ fA da db=>?_
   obtain⟨dc,dd,de,df,dg,dh,rfl,bb,bc,bd,be,bf,bg⟩:=S9 da
   have di:F1 _ cY cZ [V6 ar.Kind,sv ar.Field,V3 dc dd de,V6 ar.From,V6 ar.To,V3 df dg dh]:=db
   refine kh (a1C B1 u di u) (km u ?_)
   obtain⟨fB,bh,dj⟩:=ob cX
   refine kd b78 (fun _ _ dk ab=>ih dk.enter0 (C.mono ab) (D.mono ab) (l.mono ab) (m.mono ab) bb bc (bd.mono ab) be bf (bg.mono ab) o bh) ?_
   obtain⟨_,_,_,⟨_,_,_,fC⟩,_⟩:=ih a.enter0 C D l m bb bc bd be bf bg o bh []
   refine kv (U4 u u) (kv (u9 u) (B4 ?_))
   rintro fD ⟨dl,dm,fE⟩
   refine l5 (j9 (i9 (c9 ?_)))
   cases oi dj
   exact ey results73 ⟨dl,u,dm.s,(u0 _)⟩
  refine sr (lv (A9 u u) (av u (nq (D5 aK u (fun dn aL=>?_) (fun dn aL=>?_)))))
  ·refine o4 (o4 (D4 mixed (by kernel_rfl) a (kh (D8 (ds:=[V3 q s x,V3 y A B]) B9 u m2 u u) (kh (D8 (ds:=[V3 b c d,V3 f i k]) C4 u m1 u u) (kv (c7 W9 u) (kh (z6 a5u u m0 u) ?_))))))
   obtain⟨au,dp,dq⟩:=ob aL
   refine ki underlying33 B1 T dp fun dr dt fF du dv=>?_
   obtain⟨dw,dx,dy,dz,dA,dB,rfl,bi,bj,bk,bl,bm,bn⟩:=S9 du
   have dC:F1 _ dr dt [V6 au.Kind,sv au.Field,V3 dw dx dy,V6 au.From,V6 au.To,V3 dz dA dB]:=dv
   refine kh (a1C B1 u dC u) (km u ?_)
   obtain⟨fG,bo,dD⟩:=ob dq
   refine kd b78 (fun _ _ dE ac=>ih dE.enter0 (C.mono ac) (D.mono ac) (l.mono ac) (m.mono ac) bi bj (bk.mono ac) bl bm (bn.mono ac) o bo) ?_
   obtain⟨_,_,_,⟨_,_,_,fH⟩,_⟩:=ih a.enter0 C D l m bi bj bk bl bm bn o bo []
   refine kv (E7 u u) (B4 ?_)
   rintro fI ⟨dF,aM,U⟩
   refine l5 (D5 dD u (fun dG aN=>?_) (fun dG aN=>?_))
   ·refine sr (lv (N2 u) (nq (rr (i9 (c9 ?_)))))
    cases oi aN
    exact ey results73 ⟨dF,u,aM.s,I5⟩
   refine j3 (qs (D4 mixed (by kernel_rfl) aM (kh (D8 (ds:=[V3 q s x,V3 y A B]) B9 u m2 u u) (kh (D8 (ds:=[V3 b c d,V3 f i k]) C4 u m1 u u) (kv (c7 W9 u) (kh (z6 a5u u m0 u) ?_))))))
   obtain⟨aw,dH,dI⟩:=ob aN
   refine ki underlying33 B1 (T.mono U) dH fun dJ dK fJ dL dM=>?_
   obtain⟨dN,dO,dP,dQ,dR,dS,rfl,bp,bq,br,bs,bu,bv⟩:=S9 dL
   have dT:F1 _ dJ dK [V6 aw.Kind,sv aw.Field,V3 dN dO dP,V6 aw.From,V6 aw.To,V3 dQ dR dS]:=dM
   refine kh (a1C B1 u dT u) (km u ?_)
   obtain⟨fK,bz,dU⟩:=ob dI
   refine kd b78 (fun _ _ dV ad=>ih dV.enter0 (C.mono (U.trans ad)) (D.mono (U.trans ad)) (l.mono (U.trans ad)) (m.mono (U.trans ad)) bp bq (br.mono ad) bs bu (bv.mono ad) o bz) ?_
   obtain⟨_,_,_,⟨_,_,_,dW⟩,_⟩:=ih aM.enter0 (C.mono U) (D.mono U) (l.mono U) (m.mono U) bp bq br bs bu bv o bz []
   refine kv (u9 u) (B4 ?_)
   rintro fL ⟨dX,dY,fM⟩
   refine l5 (j9 (i9 (c9 ?_)))
   cases oi dU
   exact ey results73 ⟨dX,u,dY.s,dW⟩
  refine j3 (x8 (qr (lv (N2 u) (O7 (lv (N2 u) (nq ?_))))))
  obtain⟨dZ,ea,ax⟩:=ob aL
  refine l4 (fun E' w'=>∃ay az,dZ= .inl ay∧E'=[(9,V6 ay)]∧SH w K [] w' az []∧M0 K az∧i7 ay) ?_ ?_
  ·refine j7 ?_
   obtain⟨fN,eb,bA⟩:=ob ea
   refine qw (fun (X:Int×Int)=>IW w K [] K [(3,V6 q3),(4,pt ai),(5,pt Y),(6,pt aa),(9,V6 X.1),(10,V6 X.2)] [s7 ai [V3 q s x,V3 y A B] 26,s7 Y [V3 b c d,V3 f i k] 30,s7 aa [V6 q2.Kind,sv q2.Field,V3 H I J,V6 q2.From,V6 q2.To,V3 O R S] 35] (i7 X.1∧i7 X.2)) eb ⟨K,u,a.f1.f2,kr,I5,I5⟩ ?_
   rintro X _ fO fP ec bB ⟨ed,rfl,aA,G,ee,fQ⟩
   refine o4 (sr (mv u (fl W9 u a5u m2 aA u (lv (q9 underlying33 u (T.mono G)) (lv (u7 u u) (nq (D5 ec u (fun ef aO=>?_) (fun ef aO=>?_))))))))
   ·refine j3 (qs (j7 (o4 (D4 mixed (by kernel_rfl) aA (kh (D8 (ds:=[V3 q s x,V3 y A B]) B9 u m0 u u) (kh (D8 (ds:=[V3 b c d,V3 f i k]) C4 u m1 u u) (kv (c7 W9 u) (kh (z6 a5u u m2 u) (km u ?_)))))))))
    obtain⟨aB,eg,eh⟩:=ob aO
    refine ki underlying33 B1 (T.mono G) eg fun ei ej fR ek el=>?_
    obtain⟨em,en,eo,ep,eq,es,rfl,bC,bD,bE,bF,bG,bH⟩:=S9 ek
    have et:F1 _ ei ej [V6 aB.Kind,sv aB.Field,V3 em en eo,V6 aB.From,V6 aB.To,V3 ep eq es]:=el
    refine kh (a1C B1 u et u) (km u ?_)
    obtain⟨eu,bI,ev⟩:=ob eh
    refine kd b78 (fun _ _ ew ae=>ih ew.enter0 (C.mono (G.trans ae)) (D.mono (G.trans ae)) (l.mono (G.trans ae)) (m.mono (G.trans ae)) bC bD (bE.mono ae) bF bG (bH.mono ae) o bI) ?_
    obtain⟨_,_,_,⟨_,_,_,fS⟩,_⟩:=ih aA.enter0 (C.mono G) (D.mono G) (l.mono G) (m.mono G) bC bD bE bF bG bH o bI []
    refine kv (u9 u) (B4 ?_)
    rintro fT ⟨aP,aQ,ex⟩
    refine qs (o4 ?_)
    obtain⟨eA,eB,eC⟩:=ob ev
    refine l4 (IV w K [] aP [(3,V6 q3),(4,pt ai),(5,pt Y),(6,pt aa),(9,V6 X.1),(10,V6 X.2),(11,V6 eu),(117,.bool eA)] [s7 ai [V3 q s x,V3 y A B] 26,s7 Y [V3 b c d,V3 f i k] 30,s7 aa [V6 q2.Kind,sv q2.Field,V3 H I J,V6 q2.From,V6 q2.To,V3 O R S] 35]) ?_ ?_
    ·refine j5 (mv u (lv (A9 u u) (mv u (bt eB (fun V aR=>?_) (fun V aR=>?_)))))
     ·refine lg V (c7 a6x u) (lg V (w8 E6 u m2 aQ u) (lg V (A9 u u) (lv (n9 u V u) (i8 ?_))))
      cases oi aR
      exact qd ⟨aP,u,aQ,kr⟩
     refine lu V (lu V (lu V (lv (L8 u V u) (i8 ?_))))
     cases oi aR
     exact qd ⟨aP,u,aQ,kr⟩
    rintro _ fU ⟨bJ,rfl,bK,eD⟩
    refine l5 (D5 eC u (fun eE aS=>?_) (fun eE aS=>?_))
    ·refine sr (lv (N2 u) (nq (rr (i9 (c9 (c9 ?_))))))
     cases oi aS
     cases bB _ u
     refine i9 (c9 ?_)
     cases oi bA
     refine c9 ?_
     cases oi ax
     exact ey results73 ⟨bJ,u,bK.s,I5⟩
    refine j3 (l5 (j5 (mv u (mv u (lv (y7 u u) (av u (nb (l5 (j5 ?_)))))))))
    refine mv u (lv (y7 u u) (av u (i8 ?_)))
    cases oi aS
    exact qd ⟨_,u,bJ,u,bK,((G.trans ex).trans eD),(u0 _),(u0 _)⟩
   refine y4 (g8 (g8 ?_))
   cases oi aO
   cases bB _ u
   refine l6 ?_
   cases oi bA
   exact qd ⟨_,ed,u,u,aA.s,G,ee⟩
  rintro _ fV ⟨ay,az,rfl,rfl,eF,fW,eG⟩
  have ax:=E9 ax
  refine qr (mv u (av u (nq (j9 ?_))))
  cases oi ax
  exact ey results73 ⟨az,u,eF,eG⟩
end Go.Proofs.YtnloenhmkdpgeaaGreatDoor
