/-
 Walks of the functions. Printed by gen.py.
-/
import Derived.Test.YtpdfkjjmcnhakaaGreatDoorWalkA1
import Derived.Test.YtpdfkjjmcnhakaaGreatDoorWalkA2
import Derived.Test.YtpdfkjjmcnhakaaGreatDoorWalkA3
set_option linter.unusedVariables false
set_option linter.unusedSectionVars false
set_option maxRecDepth 100000
namespace Go.Proofs.YtpdfkjjmcnhakaaGreatDoor
set_option maxHeartbeats 4000000
open Go Go.Fk Go.RowKit Tryz
variable (F:Nat){w:World}{K:C7}{Z:List Nat}{g1 g2 g3:Nat}{A B C D G H I J O R S T:Option Addr}{a b c d f i k l m n o p q s v x y aa ab ac ad ae af ag:Nat}
variable [dr:Dr]

theorem a0K {q0:o0}{q1:l3}{r:(List w8)}(hS:SH w K [] w K [])(ak:b7 B3 K A a b q0.Stops)(S:b7 G5 K B c d q0.Syns)(am:q1.length≤maxLen)(hm:L5 F q0 q1=some r):
  Calls prog 59 #[.agg #[V3 A a b,V3 B c d],sv q1] w fun e w'=>∃a_1 n_2 c_3 K',e= .returned (V3 a_1 n_2 c_3)∧SH w K [] w' K' [tail (V3 a_1 n_2 c_3) 104 2]∧b7 G2 K' a_1 n_2 c_3 r:=by
 rw [L5] at hm
 refine ci func59 u ntmps59 (sr (bx u hS fun T cn an=>?_))
 have ao:SH _ _ _ _ _ [r5 T [V3 A a b,V3 B c d] 38]:=an
 refine lv (r_n u) (nr (b0 G2 underlying101 E3 ao fun ap cp cq l aq W=>(av u (nr (lv (s7 (ds:=[V3 A a b,V3 B c d]) E1 u m1 W u u) (mv u ?_))))))
 obtain⟨cr,ar,au⟩:=ob hm
 refine lk b9a (a7A F W.enter0 (ak.mono l) (S.mono l) am ar) ?_
 rintro ct cu ⟨aw,ax,ay,X,rfl,m,az⟩
 have aA:=(W.c0 m).t3
 refine av u (ns ?_)
 obtain⟨aB,aC,aD⟩:=ob au
 refine j9 (fun E' w'=>∃y C D G,E'=[(5,V3 y C D)]∧SH w K [] w' G [tail (V3 y C D) 104 2]∧H7 X G∧b7 G2 G y C D aB) ?_ ?_
 ·refine i7 ?_
  obtain⟨cv,aE,aF⟩:=ob aC
  have aG:=aA.f1.f2.sb (sk (sk (sd sz)))
  refine qw (fun (Y:(List w8)×(List w8)) E' w'=>∃H I J aa ab ac o,E'=[(2,pt T),(5,V3 H I J),(6,V3 aa ab ac)]∧SH w K [] w' o [r5 T [V3 A a b,V3 B c d] 38,tail (V3 H I J) 104 2]∧H7 X o∧b7 G2 o H I J Y.1∧b7 G2 o aa ab ac Y.2) aE ⟨ap,0,0,aw,ax,ay,X,u,aG,kr,(aq.mono m.le),az⟩ ?_
  rintro Y _ cw cx aH aI ⟨H,I,J,aa,ab,ac,o,rfl,U,i,ad,q⟩
  refine n9 (sr (mv u (lv (p7 underlying101 u q) (lv (E9 u u) (nq (D0 aH u (fun aJ ae=>?_) (fun aJ ae=>?_)))))))
  ·refine i8 (l4 (i7 (sr (lv (s7 (ds:=[V3 A a b,V3 B c d]) E1 u m0 U u u) (mv u ?_)))))
   obtain⟨cy,aK,aL⟩:=ob ae
   refine lk b9b (a9s F U.enter0 (ak.mono ((l.trans m.le).trans i)) (S.mono ((l.trans m.le).trans i)) q aK) ?_
   rintro cz cA ⟨aM,rfl,f,cB⟩
   have af:=(U.c0 f).t2
   refine av u (Q9 (mv u (lv (o4 u u) (nq (D0 aL u (fun aN ag=>?_) (fun aN ag=>?_))))))
   ·refine sr (mv u (mv u ?_))
    obtain⟨k,aO,aP⟩:=ob ag
    refine li underlying101 E3 (q.mono f.le) aO fun aQ aR cC aS aT=>?_
    obtain⟨rfl,aU,aV⟩:=aS
    have aW:D7 _ aQ aR [sv k.Text,V6 k.At]:=aT
    refine lv (C9 E3 u af aW u) (lb G2 (.agg #[sv k.Text,V6 k.At]) [sv k.Text,V6 k.At] k underlying101 E3 ⟨u,aU,aV⟩ af fun cD cE cF ah aX aY=>?_)
    obtain⟨cG,aZ,ba⟩:=ob aP
    refine lp underlying101 E3 (ad.mono (f.le.trans ah)) aX aZ aY.f2 fun bb bc bd cH be al bf bg=>(av u (nr (mv u ?_)))
    obtain⟨cI,bh,bi⟩:=ob ba
    refine a6r (t:=G2) wn u underlying101 E3 u u (q.mono ((f.le.trans ah).trans al)) bh fun bj bk bl bm=>(av u (nq (p9 (c9 (j7 ?_)))))
    cases oi bi
    exact qd ⟨_,u,bb,bc,bd,bj,bk,bl,be,u,bg.f2.s,(((i.trans f.le).trans ah).trans al),bf,bm⟩
   refine i8 (qs ?_)
   have ai:=af.drew
   refine wh1 (fun w'=>F0 aM w'∧A4 T [V3 A a b,V3 B c d] w') (fun w'=>True) 15 [] mixed ⟨ai.hasK kr,ai.hasObj m0⟩ (fun _=>trivial) (gt (i4 u) (gt (c7 a0N u) (gh (fun _ h=>z8 a5B u u h.2) (gt (i4 u) ?_))))
   obtain⟨O,bn,bo⟩:=ob ag
   refine gi underlying36 a0T (b7.mono (((l.trans m.le).trans i).trans f.le) S) bn fun bp bq cJ br bs=>?_
   obtain⟨bu,bv,bz,rfl,cK,bA⟩:=br
   have bB:D7 _ bp bq [V3 bu bv bz,sv O.To]:=bs
   refine gt (c7 a2G u) (gh (fun _ h=>a1h D8 u (bB 1 _ u) h.1) (gt (i4 u) ?_))
   obtain⟨s,bC,bD⟩:=ob bo
   refine gi underlying101 E3 (q.mono f.le) bC fun bE bF cL bG bH=>?_
   obtain⟨rfl,cM,bI⟩:=bG
   have bJ:D7 _ bE bF [sv s.Text,V6 s.At]:=bH
   refine gt (c7 a0i u) (gh (fun _ h=>a1h G4 u (bJ 1 _ u) h.1) (gt (C4 (cs:=#[sv O.To,V6 s.At]) b31 E3 u (by kernel_rfl)) (gn (lb G2 (.agg #[sv O.To,V6 s.At]) [sv O.To,V6 s.At] (w8.mk O.To s.At) underlying101 E3 ⟨u,bA,bI⟩ ai fun cN cO cP x bK aj=>(i5 (qh ⟨aj.hasK x,aj.hasObj m1⟩ (fun _=>trivial) (gn ?_)))))))
   obtain⟨cQ,bL,bM⟩:=ob bD
   refine lp underlying101 E3 (ad.mono (f.le.trans x)) bK bL aj.f2 fun bN bO bP cR bQ V bR R=>(i5 (qh ⟨R.hasK (x.trans V),R.hasObj m2⟩ (fun _=>trivial) (gt (r4 u) (gd' (l4 (j3 (mv u (fl a0N u a5B m2 R u (mv u ?_)))))))))
   obtain⟨bS,bT,bU⟩:=ob bM
   refine li underlying36 a0T (b7.mono (((((l.trans m.le).trans i).trans f.le).trans x).trans V) S) bT fun bV bW cS bX bY=>?_
   obtain⟨bZ,ca,cb,rfl,cc,cT⟩:=bX
   have cd:D7 _ bV bW [V3 bZ ca cb,sv bS.To]:=bY
   refine fa Q5 u (lv (z2 W1 u R (cd 0 _ u)) (lv (p7 underlying22 u cc) ?_))
   obtain⟨cU,ce,cf⟩:=ob bU
   refine a6r (t:=G2) wn u underlying101 E3 u u (q.mono ((f.le.trans x).trans V)) ce fun cg ch cj ck=>(av u (nb ?_))
   cases oi cf
   exact qd ⟨_,u,bN,bO,bP,cg,ch,cj,bQ,u,R.f2.s,(((i.trans f.le).trans x).trans V),bR,ck⟩
  refine p9 (c9 (c9 ?_))
  cases oi ae
  cases aI _ u
  refine j7 ?_
  cases oi aF
  exact qd ⟨H,I,J,o,u,U.s,i,ad⟩
 rintro _ cV ⟨y,C,D,G,rfl,cl,cW,cm⟩
 refine qr (mv u (av u (nq (l7 ?_))))
 cases oi aD
 exact ey results59 ⟨y,C,D,G,u,cl,cm⟩

theorem a7G {q0:o0}{q1:List u1}{q2:l3}{r:(List l3)}(hS:SH w K [] w K [])(aC:b7 B3 K A a b q0.Stops)(aD:b7 G5 K B c d q0.Syns)(ak:b7 E5 K C f i q1)(aE:q2.length≤maxLen)(hm:Z2 F q0 q1 q2=some r):
  Calls prog 141 #[.agg #[V3 A a b,V3 B c d],V3 C f i,sv q2] w fun e w'=>∃a_1 n_2 c_3 K',e= .returned (V3 a_1 n_2 c_3)∧SH w K [] w' K' [tail (V3 a_1 n_2 c_3) 9 1]∧b7 B3 K' a_1 n_2 c_3 r:=by
 rw [Z2] at hm
 refine ci func141 u ntmps141 (sr (bx u hS fun k bS aF=>?_))
 have aG:SH _ _ _ _ _ [r5 k [V3 A a b,V3 B c d] 38]:=aF
 refine lv (r_n u) (nr (b0 B3 underlying22 D8 aG fun aH bT ae X aI aJ=>(av u (Q9 (lv (R1 u) (nq ?_))))))
 obtain⟨aK,aL,aM⟩:=ob hm
 refine j9 (fun E' w'=>∃D G H I,E'=[(7,V3 D G H)]∧SH w K [] w' I [tail (V3 D G H) 9 1]∧H7 ae I∧b7 B3 I D G H aK) ?_ ?_
 ·refine i7 ?_
  obtain⟨bU,aN,aO⟩:=ob aL
  refine qw (fun (m:(List l3)×Int) E' w'=>∃o q s x,E'=[(1,V3 C f i),(2,sv q2),(3,pt k),(7,V3 o q s),(8,V6 m.2)]∧SH w K [] w' x [r5 k [V3 A a b,V3 B c d] 38,tail (V3 o q s) 9 1]∧H7 ae x∧b7 B3 x o q s m.1∧j5 m.2) aN ⟨aH,0,0,ae,u,aJ.f1,kr,aI,R3⟩ ?_
  rintro m _ bV bW aP aQ ⟨o,q,s,x,rfl,al,y,am,bX⟩
  refine n9 (sr (mv u (mv u (lv (p7 underlying40 u (ak.mono (X.trans y))) (lv (o4 u u) (nq (D0 aP u (fun aR af=>?_) (fun aR af=>?_))))))))
  ·refine i8 (qs (i7 (n9 ?_)))
   have Y:=al.drew
   refine wh1 (fun w'=>F0 x w'∧A4 k [V3 A a b,V3 B c d] w') (fun w'=>True) 9 [] mixed ⟨Y.hasK kr,Y.hasObj m0⟩ (fun _=>trivial) (gh (fun _ h=>B7 (ds:=[V3 A a b,V3 B c d]) E1 u u u h.2) (gt (i4 u) (gt (i4 u) ?_)))
   obtain⟨an,aS,aT⟩:=ob af
   refine gi underlying40 C8 (ak.mono (X.trans y)) aS fun aU aV bY aW aX=>?_
   obtain⟨ao,ap,aq,ar,au,aw,rfl,aY,aZ,ba⟩:=aW
   have bb:D7 _ aU aV [V6 an.Id,V3 ao ap aq,V3 ar au aw]:=aX
   refine gh (fun _ h=>a1T (cs:=[V6 an.Id,V3 ao ap aq,V3 ar au aw]) C8 u bb u h.1) (gt (i4 u) (gn ?_))
   obtain⟨bZ,bc,bd⟩:=ob aT
   refine lk b71 (a3T F Y.enter0 aY aZ ba aE bc) ?_
   rintro ca cb ⟨cc,rfl,l,be⟩
   have aa:=(Y.c0 l).t2
   refine i5 (qh ⟨aa.hasK l.le,aa.hasObj m0⟩ (fun _=>trivial) (gn ?_))
   obtain⟨cd,bf,bg⟩:=ob bd
   refine lk b60 (a0K F aa.enter0 (aC.mono ((X.trans y).trans l.le)) (aD.mono ((X.trans y).trans l.le)) be bf) ?_
   rintro ce cf ⟨bh,bi,bj,ag,rfl,ab,ax⟩
   have ah:=(aa.c0 ab).t3
   refine i5 (qh ⟨ah.hasK (l.le.trans ab.le),ah.hasObj m1⟩ (fun _=>trivial) (gt (r4 u) (gd' (qr (lv (R1 u) (nq ?_))))))
   obtain⟨bk,bl,bm⟩:=ob bg
   refine j9 (fun E' w'=>∃J O R S,E'=[(1,V3 C f i),(2,sv q2),(3,pt k),(7,V3 J O R),(8,V6 m.2)]∧SH w K [] w' S [r5 k [V3 A a b,V3 B c d] 38,tail (V3 J O R) 9 1]∧H7 ag S∧b7 B3 S J O R bk) ?_ ?_
   ·refine i7 ?_
    obtain⟨cg,bn,bo⟩:=ob bl
    have bp:=ah.sb (sd (sk (sk sz)))
    refine qw (fun (ac:(List l3)×Int) E' w'=>∃T U V W,E'=[(1,V3 C f i),(2,sv q2),(3,pt k),(7,V3 T U V),(8,V6 m.2),(9,V3 bh bi bj),(10,V6 ac.2)]∧SH w K [] w' W [r5 k [V3 A a b,V3 B c d] 38,tail (V3 T U V) 9 1]∧H7 ag W∧b7 B3 W T U V ac.1∧j5 ac.2) bn ⟨o,q,s,ag,u,bp,kr,(am.mono (l.le.trans ab.le)),R3⟩ ?_
    rintro ac _ ch cj bq br ⟨T,U,V,W,rfl,ai,ad,ay,ck⟩
    refine n9 (sr (mv u (mv u (lv (p7 underlying101 u (ax.mono ad)) (lv (o4 u u) (nq (D0 bq u (fun bs aj=>?_) (fun bs aj=>?_))))))))
    ·refine i8 (qs (i7 (j3 (mv u (mv u (mv u ?_))))))
     obtain⟨az,bu,bv⟩:=ob aj
     refine li underlying101 E3 (ax.mono ad) bu fun bz bA cl bB bC=>?_
     obtain⟨rfl,bD,cm⟩:=bB
     have bE:D7 _ bz bA [sv az.Text,V6 az.At]:=bC
     refine fa a0h u (lv (z2 D8 u ai (bE 0 _ u)) ?_)
     obtain⟨cn,bF,bG⟩:=ob bv
     have aA:=ai.f1
     refine lk b70 (a5c F aA.e1 ay bD bF) ?_
     rintro cp cq ⟨bH,bI,bJ,bK,rfl,aB,bL⟩
     have bM:=(aA.c1 aB).t2
     refine av u (nb (l4 (j3 (mv u (lv (u6 u u) (av u (i5 ?_)))))))
     cases oi bG
     exact qd ⟨_,u,bH,bI,bJ,bK,u,bM.f1,(ad.trans aB.le),bL,(s6 _)⟩
    refine p9 (c9 (c9 ?_))
    cases oi aj
    cases br _ u
    refine j7 ?_
    cases oi bo
    exact qd ⟨T,U,V,W,u,ai,ad,ay⟩
   rintro _ cr ⟨J,O,R,S,rfl,bN,bO,bP⟩
   refine q7 (l4 (j3 (mv u (lv (u6 u u) (av u (i5 ?_))))))
   cases oi bm
   exact qd ⟨_,u,J,O,R,S,u,bN,(((y.trans l.le).trans ab.le).trans bO),bP,(s6 _)⟩
  refine p9 (c9 (c9 ?_))
  cases oi af
  cases aQ _ u
  refine j7 ?_
  cases oi aO
  exact qd ⟨o,q,s,x,u,al.s,y,am⟩
 rintro _ ct ⟨D,G,H,I,rfl,bQ,cu,bR⟩
 refine qr (mv u (av u (nq (l7 ?_))))
 cases oi aM
 exact ey results141 ⟨D,G,H,I,u,bQ,bR⟩

theorem a8I {q0:o0}{q1:u1}{q2:l3}{q3:l3}{r:(List Int)}(hS:SH w K [] w K [])(ai:b7 B3 K A a b q0.Stops)(aj:b7 G5 K B c d q0.Syns)(ak:j5 q1.Id)(al:b7 F8 K C f i q1.Fields)(am:b7 H5 K D k l q1.Nums)(an:q2.length≤maxLen)(bu:q3.length≤maxLen)(hm:a0C F q0 q1 q2 q3=some r):
  Calls prog 189 #[.agg #[V3 A a b,V3 B c d],.agg #[V6 q1.Id,V3 C f i,V3 D k l],sv q2,sv q3] w fun e w'=>∃a_1 n_2 c_3 K',e= .returned (V3 a_1 n_2 c_3)∧SH w K [] w' K' [tail (V3 a_1 n_2 c_3) 3 1]∧b7 F2 K' a_1 n_2 c_3 r:=by
 rw [a0C] at hm
 refine ci func189 u ntmps189 (sr (bx u hS fun ae bv ao=>?_))
 have ap:SH _ _ _ _ _ [r5 ae [V3 A a b,V3 B c d] 38]:=ao
 refine bx u ap fun af bz aq=>?_
 have ar:SH _ _ _ _ _ [r5 af [V6 q1.Id,V3 C f i,V3 D k l] 64,_]:=aq
 refine lv (r_n u) (nr (b0 F2 underlying30 G4 ar fun au bA aw U ax ay=>(av u (ns ?_))))
 have G:=ay.drew
 refine wh1 (fun w'=>F0 aw w'∧A4 ae [V3 A a b,V3 B c d] w'∧A4 af [V6 q1.Id,V3 C f i,V3 D k l] w') (fun w'=>True) 6 [] mixed ⟨G.hasK kr,G.hasObj m2,G.hasObj m1⟩ (fun _=>trivial) (gh (fun _ h=>B7 (ds:=[V3 A a b,V3 B c d]) E1 u u u h.2.1) (gh (fun _ h=>B7 (ds:=[V6 q1.Id,V3 C f i,V3 D k l]) C8 u u u h.2.2) (gt (i4 u) (gn ?_))))
 obtain⟨bB,az,aA⟩:=ob hm
 refine lk b71 (a3T F G.enter0 ak (al.mono U) (am.mono U) an az) ?_
 rintro bC bD ⟨bE,rfl,m,aB⟩
 have H:=(G.c0 m).t3
 refine i5 (qh ⟨H.hasK m.le,H.hasObj m2,H.hasObj m1⟩ (fun _=>trivial) (gn ?_))
 obtain⟨bF,aC,aD⟩:=ob aA
 refine lk b60 (a0K F H.enter0 (ai.mono (U.trans m.le)) (aj.mono (U.trans m.le)) aB aC) ?_
 rintro bG bH ⟨aE,aF,aG,X,rfl,Y,aa⟩
 have V:=(H.c0 Y).t4
 refine i5 (qh ⟨V.hasK (m.le.trans Y.le),V.hasObj m3,V.hasObj m2⟩ (fun _=>trivial) (gt (r4 u) (gd' (qs (sr (lv (R1 u) (nq ?_)))))))
 obtain⟨aH,aI,aJ⟩:=ob aD
 refine j9 (fun E' w'=>∃I J O R,E'=[(9,V3 I J O)]∧SH w K [] w' R [tail (V3 I J O) 3 1]∧H7 X R∧b7 F2 R I J O aH) ?_ ?_
 ·refine i7 ?_
  obtain⟨bI,aK,aL⟩:=ob aI
  have aM:=V.sb (sd (sk (sd (sd sz))))
  refine qw (fun (W:(List Int)×Int) E' w'=>∃o q s x,E'=[(3,sv q3),(9,V3 o q s),(10,V3 aE aF aG),(11,V6 W.2)]∧SH w K [] w' x [tail (V3 o q s) 3 1]∧H7 X x∧b7 F2 x o q s W.1∧j5 W.2) aK ⟨au,0,0,X,u,aM,kr,(ax.mono (m.le.trans Y.le)),R3⟩ ?_
  rintro W _ bJ bK aN aO ⟨o,q,s,x,rfl,S,y,ab,bL⟩
  refine n9 (sr (mv u (mv u (lv (p7 underlying101 u (aa.mono y)) (lv (o4 u u) (nq (D0 aN u (fun aP ac=>?_) (fun aP ac=>?_))))))))
  ·refine i8 (qs (i7 (sr (mv u (mv u ?_)))))
   obtain⟨ag,aQ,aR⟩:=ob ac
   refine li underlying101 E3 (aa.mono y) aQ fun aS aT bM aU aV=>?_
   obtain⟨rfl,bN,bO⟩:=aU
   have aW:D7 _ aS aT [sv ag.Text,V6 ag.At]:=aV
   refine fa a0h u (lv (z2 D8 u S (aW 0 _ u)) (mv u (lv (J4 u u) (nq (D0 aR u (fun aX ad=>?_) (fun aX ad=>?_))))))
   ·refine j3 (mv u (mv u (mv u ?_)))
    obtain⟨T,aY,aZ⟩:=ob ad
    refine li underlying101 E3 (aa.mono y) aY fun ba bb bP bc bd=>?_
    obtain⟨rfl,bQ,be⟩:=bc
    have bf:D7 _ ba bb [sv T.Text,V6 T.At]:=bd
    refine fa a0i u (lv (z2 G4 u S (bf 1 _ u)) (lb F2 (V6 T.At) [V6 T.At] T.At underlying30 G4 ⟨u,be⟩ S fun bR bS bT ah bg bh=>?_))
    obtain⟨bU,bi,bj⟩:=ob aZ
    refine lp underlying30 G4 (ab.mono ah) bg bi bh.f1 fun bk bl bm bV bn bo bp bq=>(av u (nb (l4 (j3 (mv u (lv (u6 u u) (av u (i5 ?_))))))))
    cases oi bj
    exact qd ⟨_,u,bk,bl,bm,bn,u,bq.s,((y.trans ah).trans bo),bp,(s6 _)⟩
   refine i8 (q7 (l4 (j3 (mv u (lv (u6 u u) (av u (i5 ?_)))))))
   cases oi ad
   exact qd ⟨_,u,o,q,s,x,u,S,y,ab,(s6 _)⟩
  refine p9 (c9 (c9 ?_))
  cases oi ac
  cases aO _ u
  refine j7 ?_
  cases oi aL
  exact qd ⟨o,q,s,x,u,S,y,ab⟩
 rintro _ bW ⟨I,J,O,R,rfl,br,bX,bs⟩
 refine qr (mv u (av u (nq (l7 ?_))))
 cases oi aJ
 exact ey results189 ⟨I,J,O,R,u,br,bs⟩

theorem a7E {q0:o0}{q1:List u1}{q2:l3}{q3:l3}{r:v8}(hS:SH w K [] w K [])(aG:b7 B3 K A a b q0.Stops)(aH:b7 G5 K B c d q0.Syns)(aa:b7 E5 K C f i q1)(ao:q2.length≤maxLen)(ap:q3.length≤maxLen)(hm:Z0 F q0 q1 q2 q3=some r):
  Calls prog 142 #[.agg #[V3 A a b,V3 B c d],V3 C f i,sv q2,sv q3] w fun e w'=>∃a_3 n_4 c_5 K',e= .returned (.agg #[sv r.Field,sv r.Term,V3 a_3 n_4 c_5])∧SH w K [] w' K' [tail (V3 a_3 n_4 c_5) 153 2]∧r.Field.length≤maxLen∧r.Term.length≤maxLen∧b7 P8 K' a_3 n_4 c_5 r.Posts:=by
 rw [Z0] at hm
 refine ci func142 u ntmps142 (sr (bx u hS fun T bL aI=>?_))
 have aJ:SH _ _ _ _ _ [r5 T [V3 A a b,V3 B c d] 38]:=aI
 refine al P9 aJ fun J bM aK=>?_
 have aL:SH _ _ _ _ _ [r5 J [sv [],sv [],V3 none 0 0] 97,_]:=aK
 refine nr (mv u (mv u (lv (C4 (cs:=#[sv q2,sv q3,V3 none 0 0]) b95 P9 u (by kernel_rfl)) (al P9 aL fun H bN aM=>?_))))
 have aN:SH _ _ _ _ _ [r5 H [sv [],sv [],V3 none 0 0] 97,_,_]:=aM
 refine lw [sv q2,sv q3,V3 none 0 0] P9 aN fun bO aO=>(Q9 (lv (R1 u) (nq ?_)))
 obtain⟨l,aP,aQ⟩:=ob hm
 refine j9 (fun E' w'=>∃o q s O,E'=[(8,pt J),(9,pt H)]∧SH w K [] w' O [r5 J [sv [],sv [],V3 none 0 0] 97,r5 H [sv l.Field,sv l.Term,V3 o q s] 97,tail (V3 o q s) 153 2]∧H7 K O∧l.Field.length≤maxLen∧l.Term.length≤maxLen∧b7 P8 O o q s l.Posts) ?_ ?_
 ·refine i7 ?_
  obtain⟨bP,aR,aS⟩:=ob aP
  have aT:=aO.nil 153 2
  refine qw (fun (k:Int×v8) E' w'=>∃x y D I,E'=[(1,V3 C f i),(2,sv q2),(3,sv q3),(4,pt T),(8,pt J),(9,pt H),(10,V6 k.1)]∧SH w K [] w' I [r5 T [V3 A a b,V3 B c d] 38,r5 J [sv [],sv [],V3 none 0 0] 97,r5 H [sv k.2.Field,sv k.2.Term,V3 x y D] 97,tail (V3 x y D) 153 2]∧H7 K I∧j5 k.1∧k.2.Field.length≤maxLen∧k.2.Term.length≤maxLen∧b7 P8 I x y D k.2.Posts) aR ⟨none,0,0,K,u,aT.f1.f2.f3,kr,R3,ao,ap,(b7.nil _ _)⟩ ?_
  rintro k _ bQ bR aU aV ⟨x,y,D,I,rfl,aq,m,bS,ab,ac,ad⟩
  refine n9 (sr (mv u (mv u (lv (p7 underlying40 u (aa.mono m)) (lv (o4 u u) (nq (D0 aU u (fun aW ae=>?_) (fun aW ae=>?_))))))))
  ·refine i8 (qs (i7 (n9 ?_)))
   have U:=aq.drew
   refine wh1 (fun w'=>F0 I w'∧A4 T [V3 A a b,V3 B c d] w') (fun w'=>True) 9 [] mixed ⟨U.hasK kr,U.hasObj m0⟩ (fun _=>trivial) (gh (fun _ h=>B7 (ds:=[V3 A a b,V3 B c d]) E1 u u u h.2) (gt (i4 u) (gt (i4 u) ?_)))
   obtain⟨ar,aX,aY⟩:=ob ae
   refine gi underlying40 C8 (aa.mono m) aX fun aZ ba bT bb bc=>?_
   obtain⟨au,aw,ax,ay,az,aA,rfl,bd,be,bf⟩:=bb
   have bg:D7 _ aZ ba [V6 ar.Id,V3 au aw ax,V3 ay az aA]:=bc
   refine gh (fun _ h=>a1T (cs:=[V6 ar.Id,V3 au aw ax,V3 ay az aA]) C8 u bg u h.1) (gt (i4 u) (gt (i4 u) (gn ?_)))
   obtain⟨bh,bi,bj⟩:=ob aY
   refine lk b9D (a8I F U.enter0 (aG.mono m) (aH.mono m) bd be bf ao ap bi) ?_
   rintro bU bV ⟨V,W,X,aB,rfl,G,aC⟩
   have Y:=(U.c0 G).t5
   refine i5 (qh ⟨Y.hasK G.le,Y.hasObj m1⟩ (fun _=>trivial) (gt (r4 u) (gd' (qr (mv u (lv (p7 underlying30 u aC) (lv (E9 u u) (nq (D0 bj u (fun bk af=>?_) (fun bk af=>?_))))))))))
   ·have ag:=Y.drew
    refine wh1 (fun w'=>F0 aB w') (fun w'=>A4 H [sv k.2.Field,sv k.2.Term,V3 x y D] w') 12 [(1,10),(1,11),(1,12),(10,11),(10,12),(11,12)] mixed (ag.hasK kr) (fun _=>ag.hasObj (.tail _ (.tail _ (.tail _ (.head _))))) (gt (c7 X0 u) (gf (fun _ h=>z8 a3X u u h) (gt (i4 u) (gt (i4 u) ?_))))
    obtain⟨R,bl,bm⟩:=ob af
    refine gi underlying40 C8 (aa.mono (m.trans G.le)) bl fun bn bo bW bp bq=>?_
    obtain⟨br,bs,bu,bv,bz,bA,rfl,bB,bX,bY⟩:=bp
    have bC:D7 _ bn bo [V6 R.Id,V3 br bs bu,V3 bv bz bA]:=bq
    refine gt (c7 T9 u) (gh (fun _ h=>a1h G4 u (bC 0 _ u) h) (gt (i4 u) (gt (C4 (cs:=#[V6 R.Id,V3 V W X]) b8h T2 u (by kernel_rfl)) (gn (lb P8 (.agg #[V6 R.Id,V3 V W X]) [V6 R.Id,V3 V W X] (D1.mk R.Id bh) underlying95 T2 ⟨V,W,X,u,bB,aC⟩ ag fun bZ ca cb S bD ah=>(i5 (qh (ah.hasK S) (fun _=>ah.hasObj (.tail _ (.tail _ (.tail _ (.tail _ (.head _)))))) (gn ?_))))))))
    obtain⟨cc,bE,bF⟩:=ob bm
    refine lp underlying95 T2 (ad.mono (G.le.trans S)) bD bE ah.f5 fun ai aj ak cd bG am bH an=>(i5 (qh (an.hasK (S.trans am)) (fun _=>an.hasObj (.tail _ (.tail _ (.tail _ (.tail _ (.tail _ (.head _))))))) (gt (c7 X0 u) (gn (ls [sv k.2.Field,sv k.2.Term,V3 ai aj ak] (V3 ai aj ak) a3X an.f5 fun ce aD=>(i5 (qh (aD.hasK (S.trans am)) (fun h=>by cases h) (gd' (q7 (l4 (j3 ?_)))))))))))
    refine mv u (lv (u6 u u) (av u (i5 ?_)))
    cases oi bF
    exact qd ⟨_,u,ai,aj,ak,bG,u,aD.f1.f1.f5.f5.s,(((m.trans G.le).trans S).trans am),(s6 _),ab,ac,bH⟩
   refine i8 (q7 (l4 (j3 (mv u (lv (u6 u u) (av u (i5 ?_)))))))
   cases oi af
   exact qd ⟨_,u,x,y,D,aB,u,Y.s,(m.trans G.le),(s6 _),ab,ac,(ad.mono G.le)⟩
  refine p9 (c9 (c9 ?_))
  cases oi ae
  cases aV _ u
  refine j7 ?_
  cases oi aS
  exact qd ⟨x,y,D,I,u,aq.s,m,ab,ac,ad⟩
 rintro _ cf ⟨o,q,s,O,rfl,aE,cg,bI,bJ,bK⟩
 refine qr (lv (s7 (ds:=[sv l.Field,sv l.Term,V3 o q s]) P9 u m1 aE u u) (lw [sv l.Field,sv l.Term,V3 o q s] P9 aE fun ch aF=>(nq (l7 ?_))))
 cases oi aQ
 exact ez results142 P9 aF m0 ⟨o,q,s,O,u,aF.s,bI,bJ,bK⟩

theorem a6b {q0:o0}{q1:List u1}{r:A2}(hS:SH w K [] w K [])(bH:b7 B3 K A a b q0.Stops)(bI:b7 G5 K B c d q0.Syns)(aw:b7 E5 K C f i q1)(hm:a0Q F q0 q1=some r):
  Calls prog 97 #[.agg #[V3 A a b,V3 B c d],V3 C f i] w fun e w'=>∃a_1 n_2 c_3 a_5 n_6 c_7 cs_8 K',e= .returned (.agg #[V3 a_1 n_2 c_3,V3 a_5 n_6 c_7])∧SH w K [] w' K' [tail (V3 a_1 n_2 c_3) 64 3,N0 (V3 a_5 n_6 c_7) cs_8 97 3]∧b7 E5 K' a_1 n_2 c_3 r.Docs∧A9 true B4 K' cs_8 r.Entries∧n_6=r.Entries.length:=by
 rw [a0Q] at hm
 refine ci func97 u ntmps97 (sr (bx u hS fun o ee cc=>?_))
 have cd:SH _ _ _ _ _ [r5 o [V3 A a b,V3 B c d] 38]:=cc
 refine al I9 cd fun l ef ce=>?_
 have cf:SH _ _ _ _ _ [r5 l [V3 none 0 0,V3 none 0 0] 43,_]:=ce
 refine nr (lv (C4 (cs:=#[V3 none 0 0,V3 none 0 0]) b81 I9 u (by kernel_rfl)) (al I9 cf fun k eg cg=>?_))
 have ch:SH _ _ _ _ _ [r5 k [V3 none 0 0,V3 none 0 0] 43,_,_]:=cg
 refine lw [V3 none 0 0,V3 none 0 0] I9 ch fun eh bJ=>(nr (mv u ?_))
 obtain⟨ei,cj,ck⟩:=ob hm
 refine lk b9p (a7F F bJ.enter0 aw cj) ?_
 rintro ej ek ⟨aW,aX,aY,aZ,rfl,q,ba⟩
 have cl:=(bJ.c0 q).t4
 refine av u (Q9 (lv (R1 u) (nq ?_)))
 obtain⟨bb,cm,cn⟩:=ob ck
 refine j9 (fun E' w'=>∃ax ay az aL aA aM cs53 x,E'=[(1,V3 C f i),(4,pt l),(5,pt k)]∧SH w K [] w' x [r5 l [V3 none 0 0,V3 none 0 0] 43,r5 k [V3 ax ay az,V3 aL aA aM] 43,N0 (V3 aL aA aM) cs53 97 3,tail (V3 ax ay az) 64 3]∧H7 aZ x∧b7 E5 x ax ay az bb.Docs∧A9 true B4 x cs53 bb.Entries∧aA=bb.Entries.length) ?_ ?_
 ·refine i7 ?_
  obtain⟨el,cp,cq⟩:=ob cm
  have cr:=SH.rowNil cl 97 3
  have ct:=cr.nil 64 3
  have cu:=ct.f1.f3.f4.f5.sb (sk (sk (sk (sk (sk (sd sz))))))
  refine qw (fun (y:Int×A2) E' w'=>∃ac ad ae aB af aC cs72 S,E'=[(1,V3 C f i),(2,pt o),(4,pt l),(5,pt k),(6,V3 aW aX aY),(7,V6 y.1)]∧SH w K [] w' S [r5 o [V3 A a b,V3 B c d] 38,r5 l [V3 none 0 0,V3 none 0 0] 43,r5 k [V3 ac ad ae,V3 aB af aC] 43,N0 (V3 aB af aC) cs72 97 3,tail (V3 ac ad ae) 64 3]∧H7 aZ S∧j5 y.1∧b7 E5 S ac ad ae y.2.Docs∧A9 true B4 S cs72 y.2.Entries∧af=y.2.Entries.length) cp ⟨none,0,0,none,0,0,[],aZ,u,cu,kr,R3,(b7.nil _ _),(A9.nil B4 _),u⟩ ?_
  rintro y _ em en cv cw ⟨ac,ad,ae,aB,af,aC,cs72,S,rfl,bK,m,eo,bL,hrow73,hm74⟩
  refine n9 (sr (mv u (mv u (lv (p7 underlying22 u (ba.mono m)) (lv (o4 u u) (nq (D0 cv u (fun cx bc=>?_) (fun cx bc=>?_))))))))
  ·refine i8 (qs (i7 (n9 ?_)))
   have aN:=bK.drew
   refine wh1 (fun w'=>F0 S w'∧A4 o [V3 A a b,V3 B c d] w') (fun w'=>True) 8 [] mixed ⟨aN.hasK kr,aN.hasObj m0⟩ (fun _=>trivial) (gh (fun _ h=>B7 (ds:=[V3 A a b,V3 B c d]) E1 u u u h.2) (gt (i4 u) (gt (i4 u) (gt (i4 u) ?_))))
   obtain⟨cy,cz,cA⟩:=ob bc
   refine gi underlying22 D8 (ba.mono m) cz fun cB cC ep cD cE=>?_
   obtain⟨rfl,cF⟩:=cD
   have cG:D7 _ cB cC [sv cy]:=cE
   refine gh (fun _ h=>a1h D8 u (cG 0 _ u) h.1) (gn ?_)
   obtain⟨eq,cH,cI⟩:=ob cA
   refine lk b9q (a7G F aN.enter0 (bH.mono (q.le.trans m)) (bI.mono (q.le.trans m)) (aw.mono (q.le.trans m)) cF cH) ?_
   rintro es et ⟨cJ,cK,cL,bd,rfl,s,bM⟩
   have be:=(aN.c0 s).t6
   refine i5 (qh ⟨be.hasK s.le,be.hasObj m1⟩ (fun _=>trivial) (gt (r4 u) (gd' (qr (lv (R1 u) (nq ?_))))))
   obtain⟨bf,cM,cN⟩:=ob cI
   refine j9 (fun E' w'=>∃aD aE aF aO aG aP cs125 ag,E'=[(1,V3 C f i),(2,pt o),(4,pt l),(5,pt k),(6,V3 aW aX aY),(7,V6 y.1)]∧SH w K [] w' ag [r5 o [V3 A a b,V3 B c d] 38,r5 l [V3 none 0 0,V3 none 0 0] 43,r5 k [V3 aD aE aF,V3 aO aG aP] 43,N0 (V3 aO aG aP) cs125 97 3,tail (V3 aD aE aF) 64 3]∧H7 bd ag∧b7 E5 ag aD aE aF bf.Docs∧A9 true B4 ag cs125 bf.Entries∧aG=bf.Entries.length) ?_ ?_
   ·refine i7 ?_
    obtain⟨eu,cO,cP⟩:=ob cM
    have cQ:=be.sb (sd (sk (sk (sk (sk (sk sz))))))
    refine qw (fun (ah:Int×A2) E' w'=>∃D G H aH ai aI cs144 T,E'=[(1,V3 C f i),(2,pt o),(4,pt l),(5,pt k),(6,V3 aW aX aY),(7,V6 y.1),(8,V3 cJ cK cL),(9,V6 ah.1)]∧SH w K [] w' T [r5 o [V3 A a b,V3 B c d] 38,r5 l [V3 none 0 0,V3 none 0 0] 43,r5 k [V3 D G H,V3 aH ai aI] 43,N0 (V3 aH ai aI) cs144 97 3,tail (V3 D G H) 64 3]∧H7 bd T∧j5 ah.1∧b7 E5 T D G H ah.2.Docs∧A9 true B4 T cs144 ah.2.Entries∧ai=ah.2.Entries.length) cO ⟨ac,ad,ae,aB,af,aC,cs72,bd,u,cQ,kr,R3,(bL.mono s.le),(A9.mono s.le hrow73),hm74⟩ ?_
    rintro ah _ ev ew cR cS ⟨D,G,H,aH,ai,aI,cs144,T,rfl,bN,I,ex,bO,hrow145,hm146⟩
    refine n9 (sr (mv u (mv u (lv (p7 underlying22 u (bM.mono I)) (lv (o4 u u) (nq (D0 cR u (fun cT bg=>?_) (fun cT bg=>?_))))))))
    ·refine i8 (qs (i7 ?_))
     have aJ:=bN.drew
     refine wh1 (fun w'=>F0 T w'∧A4 o [V3 A a b,V3 B c d] w') (fun w'=>A4 k [V3 D G H,V3 aH ai aI] w') 16 [(1,14),(1,15),(1,16),(14,15),(14,16),(15,16)] mixed ⟨aJ.hasK kr,aJ.hasObj m0⟩ (fun _=>aJ.hasObj (.tail _ (.tail _ (.head _)))) (gt (c7 P7 u) (gf (fun _ h=>z8 a2A u u h) (gh (fun _ h=>B7 (ds:=[V3 A a b,V3 B c d]) E1 u u u h.2) (gt (i4 u) (gt (i4 u) (gt (i4 u) ?_))))))
     obtain⟨cU,cV,cW⟩:=ob bg
     refine gi underlying22 D8 (ba.mono ((m.trans s.le).trans I)) cV fun cX cY eA cZ da=>?_
     obtain⟨rfl,db⟩:=cZ
     have dc:D7 _ cX cY [sv cU]:=da
     refine gh (fun _ h=>a1h D8 u (dc 0 _ u) h.1) (gt (i4 u) (gt (i4 u) ?_))
     obtain⟨dd,de,df⟩:=ob cW
     refine gi underlying22 D8 (bM.mono I) de fun dg dh eB di dj=>?_
     obtain⟨rfl,dk⟩:=di
     have dl:D7 _ dg dh [sv dd]:=dj
     refine gh (fun _ h=>a1h D8 u (dl 0 _ u) h.1) (gn ?_)
     obtain⟨aK,dm,dn⟩:=ob df
     refine lk b9r (a7E F aJ.enter0 (b7.mono (((q.le.trans m).trans s.le).trans I) bH) (b7.mono (((q.le.trans m).trans s.le).trans I) bI) (b7.mono (((q.le.trans m).trans s.le).trans I) aw) db dk dm) ?_
     rintro eC eD ⟨bh,bi,bj,eE,rfl,J,dp,dq,dr⟩
     have aQ:=(aJ.c0 J).t6
     refine i5 (qh ⟨aQ.hasK J.le,aQ.hasObj m1⟩ (fun _=>aQ.hasObj (.tail _ (.tail _ (.tail _ (.head _))))) (gn (lb B4 (.agg #[sv aK.Field,sv aK.Term,V3 bh bi bj]) [sv aK.Field,sv aK.Term,V3 bh bi bj] aK underlying41 P9 ⟨bh,bi,bj,u,dp,dq,dr⟩ aQ fun eF eG dt aj du aR=>(i5 (qh ⟨aR.hasK (J.le.trans aj),aR.hasObj m2⟩ (fun _=>aR.hasObj (.tail _ (.tail _ (.tail _ (.tail _ (.head _)))))) (gn ?_))))))
     obtain⟨eH,dv,dw⟩:=ob dn
     refine a9b (t:=B4) wn u underlying41 P9 u u u u (A9.mono (J.le.trans aj) hrow145) hm146 du dv aR.f5 fun bk bl bm cs202 eI hrow204 hm205 aS=>(i5 (qh ⟨aS.hasK (J.le.trans aj),aS.hasObj m3⟩ (fun _=>aS.hasObj (.tail _ (.tail _ (.tail _ (.tail _ (.tail _ (.head _))))))) (gt (c7 P7 u) (gn (ls [V3 D G H,V3 bk bl bm] (V3 bk bl bm) a2A aS.f5 fun eJ bn=>(i5 (qh ⟨bn.hasK (J.le.trans aj),bn.hasObj m4⟩ (fun h=>by cases h) (gd' (q7 (l4 (j3 ?_)))))))))))
     refine mv u (lv (u6 u u) (av u (i5 ?_)))
     cases oi dw
     exact qd ⟨_,u,D,G,H,bk,bl,bm,cs202,dt,u,bn.f6.f2.f2.f6.f6.s,((I.trans J.le).trans aj),(s6 _),(bO.mono (J.le.trans aj)),hrow204,hm205⟩
    refine p9 (c9 (c9 ?_))
    cases oi bg
    cases cS _ u
    refine j7 ?_
    cases oi cP
    exact qd ⟨D,G,H,aH,ai,aI,cs144,T,u,bN,I,bO,hrow145,hm146⟩
   rintro _ eK ⟨aD,aE,aF,aO,aG,aP,cs125,ag,rfl,dx,dy,dz,hrow126,hm127⟩
   refine q7 (l4 (j3 (mv u (lv (u6 u u) (av u (i5 ?_))))))
   cases oi cN
   exact qd ⟨_,u,aD,aE,aF,aO,aG,aP,cs125,ag,u,dx,((m.trans s.le).trans dy),(s6 _),dz,hrow126,hm127⟩
  refine p9 (c9 (c9 ?_))
  cases oi bc
  cases cw _ u
  refine j7 ?_
  cases oi cq
  exact qd ⟨ac,ad,ae,aB,af,aC,cs72,S,u,bK.s,m,bL,hrow73,hm74⟩
 rintro _ eL ⟨ax,ay,az,aL,aA,aM,cs53,x,rfl,dA,bP,dB,hrow54,hm55⟩
 refine qs (sr (lv (R1 u) (nq ?_)))
 obtain⟨bo,dC,dD⟩:=ob cn
 refine j9 (fun E' w'=>∃U V W ak X am cs233 an,E'=[(4,pt l),(5,pt k)]∧SH w K [] w' an [r5 l [V3 none 0 0,V3 none 0 0] 43,r5 k [V3 U V W,V3 ak X am] 43,N0 (V3 ak X am) cs233 97 3,tail (V3 U V W) 64 3]∧H7 x an∧b7 E5 an U V W bo.Docs∧A9 true B4 an cs233 bo.Entries∧X=bo.Entries.length) ?_ ?_
 ·refine i7 ?_
  obtain⟨eM,dE,dF⟩:=ob dC
  refine qw (fun (ao:Int×A2) E' w'=>∃ap aq ar Y O aa a8e ab,E'=[(1,V3 C f i),(4,pt l),(5,pt k),(10,V6 ao.1)]∧SH w K [] w' ab [r5 l [V3 none 0 0,V3 none 0 0] 43,r5 k [V3 ap aq ar,V3 Y O aa] 43,N0 (V3 Y O aa) a8e 97 3,tail (V3 ap aq ar) 64 3]∧H7 x ab∧j5 ao.1∧b7 E5 ab ap aq ar ao.2.Docs∧A9 true B4 ab a8e ao.2.Entries∧O=ao.2.Entries.length) dE ⟨ax,ay,az,aL,aA,aM,cs53,x,u,dA,kr,R3,dB,hrow54,hm55⟩ ?_
  rintro ao _ eN eO dG dH ⟨ap,aq,ar,Y,O,aa,a8e,ab,rfl,bQ,aT,eP,bR,hrow253,hm254⟩
  refine n9 (sr (mv u (mv u (lv (p7 underlying40 u (aw.mono ((q.le.trans bP).trans aT))) (lv (o4 u u) (nq (D0 dG u (fun dI bp=>?_) (fun dI bp=>?_))))))))
  ·refine i8 (qs (i7 ?_))
   have aU:=bQ.drew
   refine wh1 (fun w'=>F0 ab w') (fun w'=>A4 k [V3 ap aq ar,V3 Y O aa] w') 10 [(1,8),(1,9),(1,10),(8,9),(8,10),(9,10)] mixed (aU.hasK kr) (fun _=>aU.hasObj (.tail _ (.head _))) (gt (c7 a0q u) (gf (fun _ h=>z8 a42 u u h) (gt (i4 u) (gt (i4 u) ?_))))
   obtain⟨bS,dJ,dK⟩:=ob bp
   refine gi underlying40 C8 (aw.mono ((q.le.trans bP).trans aT)) dJ fun dL dM eQ dN dO=>?_
   obtain⟨bT,bU,bV,bW,bX,bY,rfl,dP,dQ,dR⟩:=dN
   have dS:D7 _ dL dM [V6 bS.Id,V3 bT bU bV,V3 bW bX bY]:=dO
   refine gh (fun _ h=>a1T (cs:=[V6 bS.Id,V3 bT bU bV,V3 bW bX bY]) C8 u dS u h) (gn ?_)
   obtain⟨bq,dT,dU⟩:=ob dK
   refine lk b9s (a6a F aU.enter0 dP dQ dR dT) ?_
   rintro eR eS ⟨br,bs,bu,bv,bz,bA,eT,rfl,R,dV,dW,dX⟩
   have bB:=(aU.c0 R).t6
   refine i5 (qh (bB.hasK R.le) (fun _=>bB.hasObj (.tail _ (.tail _ (.tail _ (.head _))))) (gn (lb E5 (.agg #[V6 bq.Id,V3 br bs bu,V3 bv bz bA]) [V6 bq.Id,V3 br bs bu,V3 bv bz bA] bq underlying40 C8 ⟨br,bs,bu,bv,bz,bA,u,dV,dW,dX⟩ bB fun eU eV eW au dY bC=>(i5 (qh (bC.hasK (R.le.trans au)) (fun _=>bC.hasObj (.tail _ (.tail _ (.tail _ (.tail _ (.head _)))))) (gn ?_))))))
   obtain⟨eX,dZ,ea⟩:=ob dU
   refine lp underlying40 C8 (bR.mono (R.le.trans au)) dY dZ bC.f6 fun bD bE bF eY eb aV ec bG=>(i5 (qh (bG.hasK ((R.le.trans au).trans aV)) (fun _=>bG.hasObj (.tail _ (.tail _ (.tail _ (.tail _ (.tail _ (.head _))))))) (gt (c7 a0q u) (gn (ls [V3 bD bE bF,V3 Y O aa] (V3 bD bE bF) a42 bG.f5 fun eZ bZ=>(i5 (qh (bZ.hasK ((R.le.trans au).trans aV)) (fun h=>by cases h) (gd' (q7 (l4 (j3 ?_)))))))))))
   refine mv u (lv (u6 u u) (av u (i5 ?_)))
   cases oi ea
   exact qd ⟨_,u,bD,bE,bF,Y,O,aa,a8e,eb,u,bZ.f1.f6.f2.f6.s,(((aT.trans R.le).trans au).trans aV),(s6 _),ec,(A9.mono ((R.le.trans au).trans aV) hrow253),hm254⟩
  refine p9 (c9 (c9 ?_))
  cases oi bp
  cases dH _ u
  refine j7 ?_
  cases oi dF
  exact qd ⟨ap,aq,ar,Y,O,aa,a8e,ab,u,bQ,aT,bR,hrow253,hm254⟩
 rintro _ fb ⟨U,V,W,ak,X,am,cs233,an,rfl,ca,fc,ed,hrow234,hm235⟩
 refine qr (lv (s7 (ds:=[V3 U V W,V3 ak X am]) I9 u m1 ca u u) (lw [V3 U V W,V3 ak X am] I9 ca fun fd cb=>(nq (l7 ?_))))
 cases oi dD
 exact ez results97 I9 cb m0 ⟨U,V,W,ak,X,am,cs233,an,u,cb.f2.f3.s,ed,hrow234,hm235⟩

theorem a8E {q0:y2}{q1:Int}{r:u1×y2}(hS:SH w K Z w K [r5 g1 [V3 A a b,V6 q0.p_] 140])(bW:b7 tU8 K A a b q0.b_)(bX:j5 q0.p_)(bo:j5 q1)(hm:a0y F q0 q1=some r):
  Calls prog 175 #[.pointer (some ⟨g1,0,none⟩),V6 q1] w fun e w'=>∃a_2 n_3 c_4 a_6 n_7 c_8 a_10 n_11 c_12 K',e= .returned (.agg #[V6 r.1.Id,V3 a_2 n_3 c_4,V3 a_6 n_7 c_8])∧SH w K Z w' K' [tail (V3 a_2 n_3 c_4) 118 2,tail (V3 a_6 n_7 c_8) 135 2,r5 g1 [V3 a_10 n_11 c_12,V6 r.2.p_] 140]∧j5 r.1.Id∧b7 F8 K' a_2 n_3 c_4 r.1.Fields∧b7 H5 K' a_6 n_7 c_8 r.1.Nums∧b7 tU8 K' a_10 n_11 c_12 r.2.b_∧j5 r.2.p_:=by
 rw [a0y] at hm
 refine ci func175 u ntmps175 (sr (al C8 hS fun I w9 bY=>?_))
 have bZ:SH _ _ _ _ _ [r5 I [V6 0,V3 none 0 0,V3 none 0 0] 64,_]:=bY
 refine nr (mv u (lv (C4 (cs:=#[V6 q1,V3 none 0 0,V3 none 0 0]) b15 C8 u (by kernel_rfl)) (al C8 bZ fun k dX ca=>?_)))
 have cb:SH _ _ _ _ _ [r5 k [V6 0,V3 none 0 0,V3 none 0 0] 64,_,_]:=ca
 refine lw [V6 q1,V3 none 0 0,V3 none 0 0] C8 cb fun dY cc=>(Q9 (mv u ?_))
 obtain⟨dZ,cd,ce⟩:=ob hm
 have bp:=cc.f2
 refine lk a5m (B2 F bp.e1 bW bX (by decide :j5 6) cd) ?_
 rintro ea eb ⟨cf,cg,ch,aB,rfl,cj,ec,bq,br⟩
 have bs:=(bp.c1 cj).t3
 refine lv (E9 u u) (nq ?_)
 obtain⟨l,ck,cl⟩:=ob ce
 refine j9 (fun E' w'=>∃aC aD aE S T U o q s V,E'=[(0,pt g1),(4,pt I),(5,pt k)]∧SH w K Z w' V [r5 g1 [V3 aC aD aE,V6 l.1.p_] 140,r5 I [V6 0,V3 none 0 0,V3 none 0 0] 64,r5 k [V6 l.2.Id,V3 S T U,V3 o q s] 64,tail (V3 S T U) 118 2,tail (V3 o q s) 135 2]∧H7 aB V∧b7 tU8 V aC aD aE l.1.b_∧j5 l.1.p_∧j5 l.2.Id∧b7 F8 V S T U l.2.Fields∧b7 H5 V o q s l.2.Nums) ?_ ?_
 ·refine D0 ck u (fun cm aF=>?_) (fun cm aF=>?_)
  ·have ao:=bs.drew
   refine wh1 (fun w'=>F0 aB w') (fun w'=>A4 k [V6 q1,V3 none 0 0,V3 none 0 0] w') 8 [(1,6),(1,7),(1,8),(6,7),(6,8),(7,8)] mixed (ao.hasK kr) (fun _=>ao.hasObj (.tail _ (.head _))) (gt (c7 S7 u) (gf (fun _ h=>z8 a3p u u h) (gt (i4 u) (gn ?_))))
   obtain⟨ap,cn,cp⟩:=ob aF
   refine lk b74 (a3S F ao.e1 bq br cn) ?_
   rintro ed ee ⟨cq,cr,ct,ef,rfl,W,cu,cv,cw⟩
   have aG:=(ao.c1 W).t3
   refine i5 (qh (aG.hasK W.le) (fun _=>aG.hasObj (.tail _ (.head _))) (gt (C4 (cs:=#[sv [98,111,100,121],sv ap.1]) b8c J6 u (by kernel_rfl)) (gn (lb F8 (.agg #[sv [98,111,100,121],sv ap.1]) [sv [98,111,100,121],sv ap.1] (I3.mk ([98,111,100,121]:l3) ap.1) underlying61 J6 ⟨u,(by decide :([98,111,100,121]:l3).length≤maxLen),cu⟩ aG fun eg eh ei ae cx aH=>(i5 (qh (aH.hasK (W.le.trans ae)) (fun _=>aH.hasObj (.tail _ (.tail _ (.head _)))) (gn ?_)))))))
   have cy:=aH.nil 118 2
   obtain⟨ej,cz,cA⟩:=ob cp
   refine lp underlying61 J6 (b7.nil _ _) cx cz cy fun aI aJ aK ek cB aq cC aL=>(i5 (qh (aL.hasK ((W.le.trans ae).trans aq)) (fun _=>aL.hasObj (.tail _ (.tail _ (.tail _ (.head _))))) (gt (c7 S7 u) (gn (ls [V6 q1,V3 aI aJ aK,V3 none 0 0] (V3 aI aJ aK) a3p aL.f3 fun el bu=>(i5 (qh (bu.hasK ((W.le.trans ae).trans aq)) (fun h=>by cases h) (gd' ?_))))))))
   cases oi cA
   have cD:=bu.nil 135 2
   exact qd ⟨cq,cr,ct,aI,aJ,aK,none,0,0,cB,u,cD.f2.f2.f5.f5.s,((W.le.trans ae).trans aq),(cv.mono (ae.trans aq)),cw,bo,cC,(b7.nil _ _)⟩
  refine i8 ?_
  cases oi aF
  have cE:=bs.nil 118 2
  have cF:=cE.nil 135 2
  exact qd ⟨cf,cg,ch,none,0,0,none,0,0,aB,u,cF.f1.f3.f4.f4,kr,bq,br,bo,(b7.nil _ _),(b7.nil _ _)⟩
 rintro _ em ⟨aC,aD,aE,S,T,U,o,q,s,V,rfl,bv,en,cG,cH,bx,bz,bA⟩
 refine qs (sr (mv u ?_))
 obtain⟨eo,cI,cJ⟩:=ob cl
 refine lk a5m (B2 F bv.e1 cG cH (by decide :j5 3) cI) ?_
 rintro ep eq ⟨cK,cL,cM,aM,rfl,af,es,bB,bC⟩
 have bD:=(bv.c1 af).t5
 refine lv (F7 u u) (nq ?_)
 obtain⟨m,cN,cO⟩:=ob cJ
 refine j9 (fun E' w'=>∃aN aO aP v x y X Y aa ab,E'=[(0,pt g1),(4,pt I),(5,pt k)]∧SH w K Z w' ab [r5 g1 [V3 aN aO aP,V6 m.1.p_] 140,r5 I [V6 0,V3 none 0 0,V3 none 0 0] 64,r5 k [V6 m.2.Id,V3 v x y,V3 X Y aa] 64,tail (V3 v x y) 118 2,tail (V3 X Y aa) 135 2]∧H7 aM ab∧b7 tU8 ab aN aO aP m.1.b_∧j5 m.1.p_∧j5 m.2.Id∧b7 F8 ab v x y m.2.Fields∧b7 H5 ab X Y aa m.2.Nums) ?_ ?_
 ·refine D0 cN u (fun cP aQ=>?_) (fun cP aQ=>?_)
  ·have ar:=bD.drew
   refine wh1 (fun w'=>F0 aM w') (fun w'=>A4 k [V6 l.2.Id,V3 S T U,V3 o q s] w') 8 [(1,6),(1,7),(1,8),(6,7),(6,8),(7,8)] mixed (ar.hasK kr) (fun _=>ar.hasObj (.tail _ (.tail _ (.head _)))) (gt (c7 S7 u) (gf (fun _ h=>z8 a3p u u h) (gt (i4 u) (gn ?_))))
   obtain⟨au,cQ,cR⟩:=ob aQ
   refine lk b74 (a3S F ar.e1 bB bC cQ) ?_
   rintro et eu ⟨cS,cT,cU,ev,rfl,B,cV,cW,cX⟩
   have aR:=(ar.c1 B).t5
   refine i5 (qh (aR.hasK B.le) (fun _=>aR.hasObj (.tail _ (.tail _ (.head _)))) (gt (C4 (cs:=#[sv [116,105,116,108,101],sv au.1]) b8c J6 u (by kernel_rfl)) (gn (lb F8 (.agg #[sv [116,105,116,108,101],sv au.1]) [sv [116,105,116,108,101],sv au.1] (I3.mk ([116,105,116,108,101]:l3) au.1) underlying61 J6 ⟨u,(by decide :([116,105,116,108,101]:l3).length≤maxLen),cV⟩ aR fun ew ex eA J cY aS=>(i5 (qh (aS.hasK (B.le.trans J)) (fun _=>aS.hasObj (.tail _ (.tail _ (.tail _ (.head _))))) (gn ?_)))))))
   obtain⟨eB,cZ,da⟩:=ob cR
   refine lp underlying61 J6 (bz.mono ((af.le.trans B.le).trans J)) cY cZ aS.f4 fun aT aU aV eC db ag dc aW=>(i5 (qh (aW.hasK ((B.le.trans J).trans ag)) (fun _=>aW.hasObj (.tail _ (.tail _ (.tail _ (.tail _ (.head _)))))) (gt (c7 S7 u) (gn (ls [V6 l.2.Id,V3 aT aU aV,V3 o q s] (V3 aT aU aV) a3p aW.f4 fun eD bE=>(i5 (qh (bE.hasK ((B.le.trans J).trans ag)) (fun h=>by cases h) (gd' ?_))))))))
   cases oi da
   exact qd ⟨cS,cT,cU,aT,aU,aV,o,q,s,db,u,bE.f5.f2.f2.f5.f5.s,((B.le.trans J).trans ag),(cW.mono (J.trans ag)),cX,bx,dc,(b7.mono (((af.le.trans B.le).trans J).trans ag) bA)⟩
  refine i8 ?_
  cases oi aQ
  exact qd ⟨cK,cL,cM,S,T,U,o,q,s,aM,u,bD,kr,bB,bC,bx,(bz.mono af.le),(bA.mono af.le)⟩
 rintro _ eE ⟨aN,aO,aP,v,x,y,X,Y,aa,ab,rfl,bF,eF,dd,de,bG,bH,bI⟩
 refine qs (sr (mv u ?_))
 obtain⟨eG,df,dg⟩:=ob cO
 refine lk a5m (B2 F bF.e1 dd de (by decide :j5 3) df) ?_
 rintro eH eI ⟨dh,di,dj,aX,rfl,ah,eJ,bJ,bK⟩
 have bL:=(bF.c1 ah).t5
 refine lv (E9 u u) (nq ?_)
 obtain⟨c,dk,dl⟩:=ob dg
 refine j9 (fun E' w'=>∃aY aZ ba d f i C D G ac,E'=[(0,pt g1),(4,pt I),(5,pt k)]∧SH w K Z w' ac [r5 g1 [V3 aY aZ ba,V6 c.1.p_] 140,r5 I [V6 0,V3 none 0 0,V3 none 0 0] 64,r5 k [V6 c.2.Id,V3 d f i,V3 C D G] 64,tail (V3 d f i) 118 2,tail (V3 C D G) 135 2]∧H7 aX ac∧b7 tU8 ac aY aZ ba c.1.b_∧j5 c.1.p_∧j5 c.2.Id∧b7 F8 ac d f i c.2.Fields∧b7 H5 ac C D G c.2.Nums) ?_ ?_
 ·refine D0 dk u (fun dm bb=>?_) (fun dm bb=>?_)
  ·have aw:=bL.drew
   refine wh1 (fun w'=>F0 aX w') (fun w'=>A4 k [V6 m.2.Id,V3 v x y,V3 X Y aa] w') 8 [(1,6),(1,7),(1,8),(6,7),(6,8),(7,8)] mixed (aw.hasK kr) (fun _=>aw.hasObj (.tail _ (.tail _ (.head _)))) (gt (c7 a0r u) (gf (fun _ h=>z8 a43 u u h) (gt (i4 u) (gn ?_))))
   obtain⟨ax,dn,dp⟩:=ob bb
   refine lk a5m (B2 F aw.e1 bJ bK (by decide :j5 4) dn) ?_
   rintro eK eL ⟨dq,dr,dt,eM,rfl,H,du,dv,dw⟩
   have bc:=(aw.c1 H).t5
   refine i5 (qh (bc.hasK H.le) (fun _=>bc.hasObj (.tail _ (.tail _ (.head _)))) (gt (C4 (cs:=#[sv [114,97,116,101],V6 ax.1]) b8e P0 u (by kernel_rfl)) (gn (lb H5 (.agg #[sv [114,97,116,101],V6 ax.1]) [sv [114,97,116,101],V6 ax.1] (a1J.mk ([114,97,116,101]:l3) ax.1) underlying62 P0 ⟨u,(by decide :([114,97,116,101]:l3).length≤maxLen),du⟩ bc fun eN eO eP O dx bd=>(i5 (qh (bd.hasK (H.le.trans O)) (fun _=>bd.hasObj (.tail _ (.tail _ (.tail _ (.head _))))) (gn ?_)))))))
   obtain⟨eQ,dy,dz⟩:=ob dp
   refine lp underlying62 P0 (bI.mono ((ah.le.trans H.le).trans O)) dx dy bd.f5 fun be bf bg eR dA ai dB bh=>(i5 (qh (bh.hasK ((H.le.trans O).trans ai)) (fun _=>bh.hasObj (.tail _ (.tail _ (.tail _ (.tail _ (.head _)))))) (gt (c7 a0r u) (gn (ls [V6 m.2.Id,V3 v x y,V3 be bf bg] (V3 be bf bg) a43 bh.f4 fun eS bM=>(i5 (qh (bM.hasK ((H.le.trans O).trans ai)) (fun h=>by cases h) (gd' ?_))))))))
   cases oi dz
   exact qd ⟨dq,dr,dt,v,x,y,be,bf,bg,dA,u,bM.f1.f5.f2.f5.f5.s,((H.le.trans O).trans ai),(dv.mono (O.trans ai)),dw,bG,(b7.mono (((ah.le.trans H.le).trans O).trans ai) bH),dB⟩
  refine i8 ?_
  cases oi bb
  exact qd ⟨dh,di,dj,v,x,y,X,Y,aa,aX,u,bL,kr,bJ,bK,bG,(bH.mono ah.le),(bI.mono ah.le)⟩
 rintro _ eT ⟨aY,aZ,ba,d,f,i,C,D,G,ac,rfl,bN,eU,dC,dD,bO,bP,bQ⟩
 refine qs (sr (mv u ?_))
 obtain⟨eV,dE,dF⟩:=ob dl
 refine lk a5m (B2 F bN.e1 dC dD (by decide :j5 3) dE) ?_
 rintro eW eX ⟨dG,dH,dI,bR,rfl,aj,eY,bS,bT⟩
 have bi:=(bN.c1 aj).t5
 refine lv (F7 u u) (nq (D0 dF u (fun dJ bj=>?_) (fun dJ bj=>?_)))
 ·have ay:=bi.drew
  refine wh1 (fun w'=>F0 bR w') (fun w'=>A4 k [V6 c.2.Id,V3 d f i,V3 C D G] w') 9 [(1,7),(1,8),(1,9),(7,8),(7,9),(8,9)] mixed (ay.hasK kr) (fun _=>ay.hasObj (.tail _ (.tail _ (.head _)))) (gt (c7 a0r u) (gf (fun _ h=>z8 a43 u u h) (gt (i4 u) (gn ?_))))
  obtain⟨az,dK,dL⟩:=ob bj
  refine lk a5m (B2 F ay.e1 bS bT (by decide :j5 30) dK) ?_
  rintro eZ fb ⟨dM,dN,dO,fc,rfl,R,fd,dP,dQ⟩
  have bk:=(ay.c1 R).t5
  refine i5 (qh (bk.hasK R.le) (fun _=>bk.hasObj (.tail _ (.tail _ (.head _)))) (gt (u6 u u) (gt (C4 (cs:=#[sv [121,101,97,114],V6 (y8 ((2000:Int)+az.1))]) b8e P0 u (by kernel_rfl)) (gn (lb H5 (.agg #[sv [121,101,97,114],V6 (y8 ((2000:Int)+az.1))]) [sv [121,101,97,114],V6 (y8 ((2000:Int)+az.1))] (a1J.mk ([121,101,97,114]:l3) (y8 ((2000:Int)+az.1))) underlying62 P0 ⟨u,(by decide :([121,101,97,114]:l3).length≤maxLen),(s6 _)⟩ bk fun fe fg fh ad dR bl=>(i5 (qh (bl.hasK (R.le.trans ad)) (fun _=>bl.hasObj (.tail _ (.tail _ (.tail _ (.head _))))) (gn ?_))))))))
  obtain⟨fi,dS,dT⟩:=ob dL
  refine lp underlying62 P0 (bQ.mono ((aj.le.trans R.le).trans ad)) dR dS bl.f5 fun ak am an fj dU aA dV bm=>(i5 (qh (bm.hasK ((R.le.trans ad).trans aA)) (fun _=>bm.hasObj (.tail _ (.tail _ (.tail _ (.tail _ (.head _)))))) (gt (c7 a0r u) (gn (ls [V6 c.2.Id,V3 d f i,V3 ak am an] (V3 ak am an) a43 bm.f4 fun fk bn=>(i5 (qh (bn.hasK ((R.le.trans ad).trans aA)) (fun h=>by cases h) (gd' (qr (lv (s7 (ds:=[V6 c.2.Id,V3 d f i,V3 ak am an]) C8 u m0 bn u u) (lw [V6 c.2.Id,V3 d f i,V3 ak am an] C8 bn.f4 fun fm bU=>?_)))))))))))
  refine nq (l7 ?_)
  cases oi dT
  exact ez results175 C8 bU m0 ⟨d,f,i,ak,am,an,dM,dN,dO,dU,u,bU.f4.f3.f5.s,bO,(b7.mono (((aj.le.trans R.le).trans ad).trans aA) bP),dV,(dP.mono (ad.trans aA)),dQ⟩
 refine i8 (qr (lv (s7 (ds:=[V6 c.2.Id,V3 d f i,V3 C D G]) C8 u m2 bi u u) (lw [V6 c.2.Id,V3 d f i,V3 C D G] C8 bi.f1 fun fn bV=>(nq (l7 ?_)))))
 cases oi bj
 exact ez results175 C8 bV m0 ⟨d,f,i,C,D,G,dG,dH,dI,bR,u,bV.f1.f4.f4.s,bO,(bP.mono aj.le),(bQ.mono aj.le),bS,bT⟩

theorem a7C {q0:y2}{r:(List u1)×y2}(hS:SH w K Z w K [r5 g1 [V3 A a b,V6 q0.p_] 140])(aj:b7 tU8 K A a b q0.b_)(ak:j5 q0.p_)(hm:Y8 F q0=some r):
  Calls prog 130 #[.pointer (some ⟨g1,0,none⟩)] w fun e w'=>∃a_1 n_2 c_3 a_5 n_6 c_7 K',e= .returned (V3 a_1 n_2 c_3)∧SH w K Z w' K' [tail (V3 a_1 n_2 c_3) 64 3,r5 g1 [V3 a_5 n_6 c_7,V6 r.2.p_] 140]∧b7 E5 K' a_1 n_2 c_3 r.1∧b7 tU8 K' a_5 n_6 c_7 r.2.b_∧j5 r.2.p_:=by
 rw [Y8] at hm
 refine ci func130 u ntmps130 (sr (lv (r_n u) (nr (b0 E5 underlying40 C8 hS fun a7 w9 bm am an ao=>(av u (nr (lv (R1 u) (Q9 (mv u ?_)))))))))
 obtain⟨bn,ap,aq⟩:=ob hm
 have ab:=ao.f1
 refine lk a5m (B2 F ab.e1 (aj.mono am) ak (by decide :j5 6) ap) ?_
 rintro bo bp ⟨ar,au,aw,H,rfl,ac,ax,ay,az⟩
 have aA:=(ab.c1 ac).t2
 refine av u (nq ?_)
 obtain⟨s,aB,aC⟩:=ob aq
 refine j9 (fun E' w'=>∃i k l x y B d,E'=[(0,pt g1),(3,V3 i k l)]∧SH w K Z w' d [r5 g1 [V3 x y B,V6 s.2.p_] 140,tail (V3 i k l) 64 3]∧H7 H d∧b7 E5 d i k l s.1∧b7 tU8 d x y B s.2.b_∧j5 s.2.p_) ?_ ?_
 ·refine i7 ?_
  obtain⟨bq,aD,aE⟩:=ob aB
  refine qw (fun (c:(List u1)×Int×Int×y2) E' w'=>∃m o q C D G f,E'=[(0,pt g1),(3,V3 m o q),(4,V6 c.2.1),(5,V6 c.2.2.1)]∧SH w K Z w' f [r5 g1 [V3 C D G,V6 c.2.2.2.p_] 140,tail (V3 m o q) 64 3]∧H7 H f∧b7 E5 f m o q c.1∧j5 c.2.1∧j5 c.2.2.1∧b7 tU8 f C D G c.2.2.2.b_∧j5 c.2.2.2.p_) aD ⟨a7,0,0,ar,au,aw,H,u,aA,kr,(an.mono ac.le),R3,ax,ay,az⟩ ?_
  rintro c _ br bs aF aG ⟨m,o,q,C,D,G,f,rfl,I,ad,ae,bu,bv,af,ag⟩
  refine n9 (sr (mv u (lv (E9 u u) (nq (D0 aF u (fun aH J=>?_) (fun aH J=>?_))))))
  ·refine i8 (qs (i7 (sr (mv u (lv (u6 u u) (mv u ?_))))))
   obtain⟨bx,aI,aJ⟩:=ob J
   refine lk a5m (B2 F I.e1 af ag (by decide :j5 3) aI) ?_
   rintro bz bA ⟨bB,bC,bD,bE,rfl,O,bF,aK,aL⟩
   have ah:=(I.c1 O).t2
   refine lv (u6 u u) (av u (nq (j3 (mv u (mv u (mv u ?_))))))
   obtain⟨R,aM,aN⟩:=ob aJ
   refine lk b9B (a8E F ah.e1 aK aL (s6 _) aM) ?_
   rintro bG bH ⟨S,T,U,V,W,X,aO,aP,aQ,bI,rfl,Y,aR,aS,aT,aU,aV⟩
   have aW:=(ah.c1 Y).t4
   refine lb E5 (.agg #[V6 R.1.Id,V3 S T U,V3 V W X]) [V6 R.1.Id,V3 S T U,V3 V W X] R.1 underlying40 C8 ⟨S,T,U,V,W,X,u,aR,aS,aT⟩ aW fun bJ bK bL aa aX aY=>?_
   obtain⟨bM,aZ,ba⟩:=ob aN
   refine lp underlying40 C8 (ae.mono ((O.le.trans Y.le).trans aa)) aX aZ aY.f4 fun bb bc bd bN be ai bf bg=>(av u (nb (l4 (j3 (mv u (lv (I8 u u) (av u (i5 ?_))))))))
   cases oi ba
   exact qd ⟨_,u,bb,bc,bd,aO,aP,aQ,be,u,bg.f4.s,((((ad.trans O.le).trans Y.le).trans aa).trans ai),bf,(s6 _),(s6 _),(aU.mono (aa.trans ai)),aV⟩
  refine p9 (c9 (c9 ?_))
  cases oi J
  cases aG _ u
  refine j7 ?_
  cases oi aE
  exact qd ⟨m,o,q,C,D,G,f,u,I,ad,ae,af,ag⟩
 rintro _ bO ⟨i,k,l,x,y,B,d,rfl,bh,bP,bi,bj,bk⟩
 refine qr (mv u (av u (nq (l7 ?_))))
 cases oi aC
 exact ey results130 ⟨i,k,l,x,y,B,d,u,bh.f1,bi,bj,bk⟩

theorem a8G {q0:y2}{r:o0×A2×y2}(hS:SH w K Z w K [r5 g1 [V3 A a b,V6 q0.p_] 140])(V:b7 tU8 K A a b q0.b_)(W:j5 q0.p_)(hm:a0A F q0=some r):
  Calls prog 80 #[.pointer (some ⟨g1,0,none⟩)] w fun e w'=>∃a_1 n_2 c_3 a_5 n_6 c_7 a_9 n_10 c_11 a_13 n_14 c_15 cs_16 a_19 n_20 c_21 K',e= .returned (.tuple #[.agg #[V3 a_1 n_2 c_3,V3 a_5 n_6 c_7],.agg #[V3 a_9 n_10 c_11,V3 a_13 n_14 c_15]])∧SH w K Z w' K' [tail (V3 a_1 n_2 c_3) 9 1,tail (V3 a_5 n_6 c_7) 128 2,tail (V3 a_9 n_10 c_11) 64 3,N0 (V3 a_13 n_14 c_15) cs_16 97 3,r5 g1 [V3 a_19 n_20 c_21,V6 r.2.2.p_] 140]∧b7 B3 K' a_1 n_2 c_3 r.1.Stops∧b7 G5 K' a_5 n_6 c_7 r.1.Syns∧b7 E5 K' a_9 n_10 c_11 r.2.1.Docs∧A9 true B4 K' cs_16 r.2.1.Entries∧n_14=r.2.1.Entries.length∧b7 tU8 K' a_19 n_20 c_21 r.2.2.b_∧j5 r.2.2.p_:=by
 rw [a0A] at hm
 refine ci func80 u ntmps80 (sr (al E1 hS fun X w9 Y=>?_))
 have aa:SH _ _ _ _ _ [r5 X [V3 none 0 0,V3 none 0 0] 38,_]:=Y
 refine al I9 aa fun ab aF ac=>?_
 have ad:SH _ _ _ _ _ [r5 ab [V3 none 0 0,V3 none 0 0] 43,_,_]:=ac
 refine nr (mv u ?_)
 obtain⟨aG,ae,af⟩:=ob hm
 have O:=ad.f2
 refine lk b9h (a7B F O.e1 V W ae) ?_
 rintro aH aI ⟨f,i,k,l,m,o,aJ,aK,aL,ag,rfl,ah,R,S,ai,aj⟩
 have ak:=(O.c1 ah).t5
 refine al E1 ak fun T aM am=>?_
 have an:SH _ _ _ _ _ [r5 T [V3 none 0 0,V3 none 0 0] 38,_,_,_,_,_]:=am
 refine lw [V3 f i k,V3 l m o] E1 an fun aN ao=>(ns ?_)
 have x:=ao.drew
 refine wh1 (fun w'=>F0 ag w'∧A4 T [V3 f i k,V3 l m o] w') (fun w'=>True) 7 [] mixed ⟨x.hasK kr,x.hasObj m0⟩ (fun _=>trivial) (gh (fun _ h=>B7 (ds:=[V3 f i k,V3 l m o]) E1 u u u h.2) (gh (fun _ h=>B7 (ds:=[V3 f i k,V3 l m o]) E1 u u u h.2) (gt (i4 u) (gn ?_))))
 obtain⟨aO,ap,aq⟩:=ob af
 have U:=x.f3
 refine lk b9i (a7C F U.e1 ai aj ap) ?_
 rintro aP aQ ⟨aR,aS,aT,ar,au,aw,aU,rfl,d,ax,ay,az⟩
 have v:=(U.c1 d).t7
 refine i5 (qh ⟨v.hasK d.le,v.hasObj m2⟩ (fun _=>trivial) (gn ?_))
 obtain⟨aV,aA,aB⟩:=ob aq
 refine lk b9U (a6b F v.enter0 (R.mono d.le) (S.mono d.le) ax aA) ?_
 rintro aW aX ⟨y,B,C,D,G,H,cs77,aC,rfl,q,aD,hrow78,hm79⟩
 have I:=(v.c0 q).t9
 refine i5 (qh ⟨I.hasK (d.le.trans q.le),I.hasObj m4⟩ (fun _=>trivial) (gn (lw [V3 f i k,V3 l m o] E1 I.f8 fun aY J=>(i5 (qh ⟨J.hasK (d.le.trans q.le),J.hasObj m5⟩ (fun _=>trivial) (gn (lw [V3 y B C,V3 D G H] I9 J.f8 fun aZ s=>(i5 (qh ⟨s.hasK (d.le.trans q.le),s.hasObj m6⟩ (fun _=>trivial) (gd' (l4 (l7 ?_))))))))))))
 cases oi aB
 exact O8 (vs:=[_,_]) results80 ⟨⟨_,_,u,A5 E1 (cs:=[V3 f i k,V3 l m o]) (fun j c e=>by rw [Nat.zero_add,s.mem_obj m1];exact e) (.inl ⟨u,u,u⟩)⟩,⟨_,_,u,A5 I9 (cs:=[V3 y B C,V3 D G H]) (fun j c e=>by rw [Nat.zero_add,s.mem_obj m0];exact e) (.inl ⟨u,u,u⟩)⟩,trivial⟩ ⟨f,i,k,l,m,o,y,B,C,D,G,H,cs77,ar,au,aw,aC,u,s.f5.f4.f4.f8.f8.s,(R.mono (d.le.trans q.le)),(S.mono (d.le.trans q.le)),aD,hrow78,hm79,(ay.mono q.le),az⟩

theorem a59 {q0:y2}{r:o0×A2×y2}(hS:SH w K Z w K [r5 g1 [V3 A a b,V6 q0.p_] 140])(bl:b7 tU8 K A a b q0.b_)(bm:j5 q0.p_)(hm:S3 F q0=some r):
  Calls prog 40 #[.pointer (some ⟨g1,0,none⟩)] w fun e w'=>∃a_1 n_2 c_3 a_5 n_6 c_7 a_9 n_10 c_11 a_13 n_14 c_15 a_17 n_18 c_19 K',e= .returned (.tuple #[.agg #[V3 a_1 n_2 c_3,V3 a_5 n_6 c_7],.agg #[V3 a_9 n_10 c_11,V3 a_13 n_14 c_15]])∧SH w K Z w' K' [tail (V3 a_1 n_2 c_3) 9 1,tail (V3 a_5 n_6 c_7) 128 2,tail (V3 a_13 n_14 c_15) 97 3,r5 g1 [V3 a_17 n_18 c_19,V6 r.2.2.p_] 140]∧b7 B3 K' a_1 n_2 c_3 r.1.Stops∧b7 G5 K' a_5 n_6 c_7 r.1.Syns∧b7 E5 K' a_9 n_10 c_11 r.2.1.Docs∧b7 B4 K' a_13 n_14 c_15 r.2.1.Entries∧b7 tU8 K' a_17 n_18 c_19 r.2.2.b_∧j5 r.2.2.p_:=by
 rw [S3] at hm
 refine ci func40 rfl ntmps40 (sr (al E1 hS fun g7 w9 bo=>?_))
 have bp:SH _ _ _ _ _ [r5 g7 [V3 none 0 0,V3 none 0 0] 38,_]:=bo
 refine al I9 bp fun bq cJ br=>?_
 have bs:SH _ _ _ _ _ [r5 bq [V3 none 0 0,V3 none 0 0] 43,_,_]:=br
 refine nr (mv rfl ?_)
 obtain⟨cK,bu,bv⟩:=ob hm
 have bc:=bs.f2
 refine lk c0w (a8G F bc.e1 bl bm bu) ?_
 rintro cL cM ⟨f,i,k,l,m,o,s,x,y,q,B,C,cs38,bx,bz,bA,bB,rfl,bC,aa,ab,ac,hrow39,hm40,bd,be⟩
 have bD:=(bc.c1 bC).t7
 refine mv rfl (lv (B6 rfl rfl) (lv (B6 rfl rfl) (al E1 bD fun Y cN bE=>?_)))
 have bF:SH _ _ _ _ _ [r5 Y [V3 none 0 0,V3 none 0 0] 38,_,_,_,_,_,_,_]:=bE
 refine al I9 bF fun O cO bG=>?_
 have bH:SH _ _ _ _ _ [r5 O [V3 none 0 0,V3 none 0 0] 43,_,_,_,_,_,_,_,_]:=bG
 refine lw [V3 f i k,V3 l m o] E1 bH.f1 fun cP bI=>(lw [V3 s x y,V3 q B C] I9 bI.f1 fun cQ ad=>(Q9 (fl P7 rfl a2A m0 ad rfl (lv (a3l underlying41 rfl hm40) (lv (E9 rfl rfl) (nq (D0 bv rfl (fun bJ aR=>?_) (fun bJ aR=>?_))))))))
 ·refine sr (mv rfl (fl P7 rfl a2A m0 ad rfl (lv (a3l underlying41 rfl hm40) ?_)))
  obtain⟨aS,bK,bL⟩:=ob aR
  have bf:=ad.f6
  refine lk a5m (B2 F bf.e1 bd be (a2L (b1R ad m5 hm40)) bK) ?_
  rintro cR cS ⟨cT,cU,cV,cW,rfl,D,cX,bM,bN⟩
  have bg:=(bf.c1 D).t9
  refine av rfl (nr (mv rfl ?_))
  obtain⟨cY,bO,bP⟩:=ob bL
  refine lk a5m (B2 F bg.e1 bM bN (by decide :j5 16) bO) ?_
  rintro cZ da ⟨aj,ak,am,an,rfl,G,db,ao,ap⟩
  have R:=(bg.c1 G).t9
  refine nq (i7 (sr (lv (F7 rfl rfl) (av rfl (nq (D0 bP rfl (fun bQ aT=>?_) (fun bQ aT=>?_)))))))
  ·refine j3 (fl P7 rfl a2A m1 R rfl (mv rfl ?_))
   obtain⟨H,ae,bR⟩:=ob aT
   obtain⟨dc,bh⟩:=SH.rowI_at R m6 hm40 ae
   obtain⟨dd,bS,bT⟩:=A9.at (A9.mono (D.le.trans G.le) hrow39) ae
   obtain⟨aq,ar,au,rfl,bU,de,bV⟩:=bS
   have bW: ∀(j:Nat) (d:Value),[sv H.Field,sv H.Term,V3 aq ar au][j]? =some d→cs38[aS.1.toNat*B4.size+j]? =some d:=bT
   refine lv (a2k (t:=B4) underlying41 P9 rfl rfl bh hm40 ae) (fa a2P rfl (b5l (t:=B4) (off:=1) (ds:=[sv H.Field,sv H.Term,V3 aq ar au]) (v:=sv [122,122,122]) (u:=.agg #[sv H.Field,sv [122,122,122],V3 aq ar au]) (e:=(v8.mk H.Field ([122,122,122]:l3) H.Posts)) wn D8 rfl rfl rfl rfl (by simp [Value.cells,Value.oneCell',sv]) bh R.f6 (A9.mono (D.le.trans G.le) hrow39) hm40 ae bW rfl rfl ⟨aq,ar,au,rfl,bU,(by decide :([122,122,122]:l3).length≤maxLen),bV⟩ fun cs111 df hrow113 hm114 bX=>?_))
   have bY:=b5T (e:=(v8.mk H.Field ([122,122,122]:l3) H.Posts)) ae
   obtain⟨dg,bZ,ca⟩:=A9.at hrow113 bY
   obtain⟨cb,cc,cd,rfl,dh,di,dj⟩:=bZ
   have dk: ∀(j:Nat) (d:Value),[sv ((v8.mk H.Field ([122,122,122]:l3) H.Posts).Field),sv ((v8.mk H.Field ([122,122,122]:l3) H.Posts).Term),V3 cb cc cd][j]? =some d→cs111[aS.1.toNat*B4.size+j]? =some d:=ca
   refine nb (qs ?_)
   have aw:=bX.drew
   refine wh1 (fun w'=>F0 an w'∧A4 Y [V3 f i k,V3 l m o] w'∧A4 O [V3 s x y,V3 q B C] w') (fun w'=>True) 4 [] mixed ⟨aw.hasK kr,aw.hasObj m3,aw.hasObj m2⟩ (fun _=>trivial) (gh (fun _ h=>B7 (ds:=[V3 f i k,V3 l m o]) E1 rfl rfl rfl h.2.1) (gh (fun _ h=>B7 (ds:=[V3 s x y,V3 q B C]) I9 rfl rfl rfl h.2.2) (gn (lw [V3 f i k,V3 l m o] E1 aw.f8 fun dl ax=>(i5 (qh ⟨ax.hasK kr,ax.hasObj m4,ax.hasObj m3⟩ (fun _=>trivial) (gn (lw [V3 s x y,V3 q B C] I9 ax.f8 fun dm ay=>(i5 (qh ⟨ay.hasK kr,ay.hasObj m5,ay.hasObj m4⟩ (fun _=>trivial) (gd' ?_)))))))))))
   refine l4 (l7 ?_)
   obtain⟨ce,az,cf,aU⟩:=SH.freezeI ay.f2 hrow113 hm114
   cases oi bR
   exact O8 (vs:=[_,_]) results40 ⟨⟨_,_,rfl,A5 E1 (cs:=[V3 f i k,V3 l m o]) (fun j c e=>by rw [Nat.zero_add,aU.mem_obj m2];exact e) (.inl ⟨rfl,rfl,rfl⟩)⟩,⟨_,_,rfl,A5 I9 (cs:=[V3 s x y,V3 q B C]) (fun j c e=>by rw [Nat.zero_add,aU.mem_obj m1];exact e) (.inl ⟨rfl,rfl,rfl⟩)⟩,trivial⟩ ⟨f,i,k,l,m,o,s,x,y,q,B,C,aj,ak,am,ce,rfl,aU.f3.f1.f7.f7.s,(aa.mono ((D.le.trans G.le).trans az)),(ab.mono ((D.le.trans G.le).trans az)),(ac.mono ((D.le.trans G.le).trans az)),cf,(ao.mono az),ap⟩
  refine sr (lv (F7 rfl rfl) (av rfl (nq (D0 aT rfl (fun cg aV=>?_) (fun cg aV=>?_)))))
  ·have af:=R.drew
   refine wh1 (fun w'=>F0 an w') (fun w'=>A4 O [V3 s x y,V3 q B C] w'∧a5k q cs38 w') 8 [(1,8),(3,5),(5,6),(6,7),(7,8)] mixed (af.hasK kr) (fun _=>⟨af.hasObj m1,af.hasRow m6⟩) (gt (c7 P7 rfl) (gf (fun _ h=>z8 a2A rfl rfl h.1) (gt (c7 P7 rfl) (gf (fun _ h=>z8 a2A rfl rfl h.1) (gt (i4 rfl) ?_)))))
   obtain⟨I,aW,ch⟩:=ob aV
   obtain⟨dn,bi⟩:=SH.rowI_at af m6 hm40 aW
   obtain⟨dp,cj,ck⟩:=A9.at (A9.mono (D.le.trans G.le) hrow39) aW
   obtain⟨ag,ah,ai,rfl,cl,cm,cn⟩:=cj
   have cp: ∀(j:Nat) (d:Value),[sv I.Field,sv I.Term,V3 ag ah ai][j]? =some d→cs38[aS.1.toNat*B4.size+j]? =some d:=ck
   refine gt (a2k (t:=B4) underlying41 P9 rfl rfl bi hm40 aW) (gf (fun _ h=>(b4T (ds:=[sv I.Field,sv I.Term,V3 ag ah ai]) P9 rfl cp rfl bi h.2)) (gn (lb B4 (.agg #[sv I.Field,sv I.Term,V3 ag ah ai]) [sv I.Field,sv I.Term,V3 ag ah ai] I underlying41 P9 ⟨ag,ah,ai,rfl,cl,cm,cn⟩ af fun dq dr cq J cr aA=>(i5 (qh (aA.hasK J) (fun _=>⟨aA.hasObj m2,aA.hasRow m7⟩) (gn ?_))))))
   obtain⟨dt,ct,cu⟩:=ob ch
   refine a9b (t:=B4) wn rfl underlying41 P9 rfl rfl rfl rfl (A9.mono ((D.le.trans G.le).trans J) hrow39) hm40 cr ct aA.f7 fun S T U cs177 du hrow179 hm180 bj=>(i5 (qh (bj.hasK J) (fun h=>by cases h) (gt (c7 P7 rfl) (gn (ls [V3 s x y,V3 S T U] (V3 S T U) a2A bj.f3 fun dv bk=>(i5 (qh (bk.hasK J) (fun h=>by cases h) (gd' (q7 (qs ?_))))))))))
   have aB:=bk.drew
   refine wh1 (fun w'=>F0 cq w'∧A4 Y [V3 f i k,V3 l m o] w'∧A4 O [V3 s x y,V3 S T U] w') (fun w'=>True) 4 [] mixed ⟨aB.hasK kr,aB.hasObj m4,aB.hasObj m0⟩ (fun _=>trivial) (gh (fun _ h=>B7 (ds:=[V3 f i k,V3 l m o]) E1 rfl rfl rfl h.2.1) (gh (fun _ h=>B7 (ds:=[V3 s x y,V3 S T U]) I9 rfl rfl rfl h.2.2) (gn (lw [V3 f i k,V3 l m o] E1 aB.f9 fun dw aC=>(i5 (qh ⟨aC.hasK kr,aC.hasObj m5,aC.hasObj m1⟩ (fun _=>trivial) (gn (lw [V3 s x y,V3 S T U] I9 aC.f9 fun dx aD=>(i5 (qh ⟨aD.hasK kr,aD.hasObj m6,aD.hasObj m2⟩ (fun _=>trivial) (gd' ?_)))))))))))
   refine l4 (l7 ?_)
   obtain⟨cv,aE,cw,aX⟩:=SH.freezeI aD.f3 hrow179 hm180
   cases oi cu
   exact O8 (vs:=[_,_]) results40 ⟨⟨_,_,rfl,A5 E1 (cs:=[V3 f i k,V3 l m o]) (fun j c e=>by rw [Nat.zero_add,aX.mem_obj m2];exact e) (.inl ⟨rfl,rfl,rfl⟩)⟩,⟨_,_,rfl,A5 I9 (cs:=[V3 s x y,V3 S T U]) (fun j c e=>by rw [Nat.zero_add,aX.mem_obj m1];exact e) (.inl ⟨rfl,rfl,rfl⟩)⟩,trivial⟩ ⟨f,i,k,l,m,o,s,x,y,S,T,U,aj,ak,am,cv,rfl,aX.f5.f1.f8.f8.s,(b7.mono (((D.le.trans G.le).trans J).trans aE) aa),(b7.mono (((D.le.trans G.le).trans J).trans aE) ab),(b7.mono (((D.le.trans G.le).trans J).trans aE) ac),cw,(ao.mono (J.trans aE)),ap⟩
  refine sr (lv (F7 rfl rfl) (av rfl (nq (D0 aV rfl (fun cx aY=>?_) (fun cx aY=>?_)))))
  ·refine j3 (fl a0q rfl a42 m1 R rfl ?_)
   obtain⟨dy,cy,cz⟩:=ob aY
   refine a6r (t:=E5) wn rfl underlying40 C8 rfl rfl (ac.mono (D.le.trans G.le)) cy fun V W X cA=>(fa a0q rfl (ls [V3 V W X,V3 q B C] (V3 V W X) a42 R.f1 fun dz cB=>(nb (qs ?_))))
   have aF:=cB.drew
   refine wh1 (fun w'=>F0 an w'∧A4 Y [V3 f i k,V3 l m o] w'∧A4 O [V3 V W X,V3 q B C] w') (fun w'=>True) 4 [] mixed ⟨aF.hasK kr,aF.hasObj m2,aF.hasObj m0⟩ (fun _=>trivial) (gh (fun _ h=>B7 (ds:=[V3 f i k,V3 l m o]) E1 rfl rfl rfl h.2.1) (gh (fun _ h=>B7 (ds:=[V3 V W X,V3 q B C]) I9 rfl rfl rfl h.2.2) (gn (lw [V3 f i k,V3 l m o] E1 aF.f8 fun dA aG=>(i5 (qh ⟨aG.hasK kr,aG.hasObj m3,aG.hasObj m1⟩ (fun _=>trivial) (gn (lw [V3 V W X,V3 q B C] I9 aG.f8 fun dB aH=>(i5 (qh ⟨aH.hasK kr,aH.hasObj m4,aH.hasObj m2⟩ (fun _=>trivial) (gd' ?_)))))))))))
   refine l4 (l7 ?_)
   obtain⟨cC,aI,cD,aZ⟩:=SH.freezeI aH.f8 (A9.mono (D.le.trans G.le) hrow39) hm40
   cases oi cz
   exact O8 (vs:=[_,_]) results40 ⟨⟨_,_,rfl,A5 E1 (cs:=[V3 f i k,V3 l m o]) (fun j c e=>by rw [Nat.zero_add,aZ.mem_obj m2];exact e) (.inl ⟨rfl,rfl,rfl⟩)⟩,⟨_,_,rfl,A5 I9 (cs:=[V3 V W X,V3 q B C]) (fun j c e=>by rw [Nat.zero_add,aZ.mem_obj m1];exact e) (.inl ⟨rfl,rfl,rfl⟩)⟩,trivial⟩ ⟨f,i,k,l,m,o,V,W,X,q,B,C,aj,ak,am,cC,rfl,aZ.f4.f1.f7.f7.s,(aa.mono ((D.le.trans G.le).trans aI)),(ab.mono ((D.le.trans G.le).trans aI)),(cA.mono aI),cD,(ao.mono aI),ap⟩
  refine i8 (q7 (qs ?_))
  have aJ:=R.drew
  refine wh1 (fun w'=>F0 an w'∧A4 Y [V3 f i k,V3 l m o] w'∧A4 O [V3 s x y,V3 q B C] w') (fun w'=>True) 4 [] mixed ⟨aJ.hasK kr,aJ.hasObj m2,aJ.hasObj m1⟩ (fun _=>trivial) (gh (fun _ h=>B7 (ds:=[V3 f i k,V3 l m o]) E1 rfl rfl rfl h.2.1) (gh (fun _ h=>B7 (ds:=[V3 s x y,V3 q B C]) I9 rfl rfl rfl h.2.2) (gn (lw [V3 f i k,V3 l m o] E1 aJ.f8 fun dC aK=>(i5 (qh ⟨aK.hasK kr,aK.hasObj m3,aK.hasObj m2⟩ (fun _=>trivial) (gn (lw [V3 s x y,V3 q B C] I9 aK.f8 fun dD aL=>(i5 (qh ⟨aL.hasK kr,aL.hasObj m4,aL.hasObj m3⟩ (fun _=>trivial) (gd' ?_)))))))))))
  refine l4 (l7 ?_)
  obtain⟨cE,aM,cF,ba⟩:=SH.freezeI aL.f8 (A9.mono (D.le.trans G.le) hrow39) hm40
  cases oi aY
  exact O8 (vs:=[_,_]) results40 ⟨⟨_,_,rfl,A5 E1 (cs:=[V3 f i k,V3 l m o]) (fun j c e=>by rw [Nat.zero_add,ba.mem_obj m2];exact e) (.inl ⟨rfl,rfl,rfl⟩)⟩,⟨_,_,rfl,A5 I9 (cs:=[V3 s x y,V3 q B C]) (fun j c e=>by rw [Nat.zero_add,ba.mem_obj m1];exact e) (.inl ⟨rfl,rfl,rfl⟩)⟩,trivial⟩ ⟨f,i,k,l,m,o,s,x,y,q,B,C,aj,ak,am,cE,rfl,ba.f3.f1.f7.f7.s,(aa.mono ((D.le.trans G.le).trans aM)),(ab.mono ((D.le.trans G.le).trans aM)),(ac.mono ((D.le.trans G.le).trans aM)),cF,(ao.mono aM),ap⟩
 refine i8 (qs ?_)
 have aN:=ad.drew
 refine wh1 (fun w'=>F0 bB w'∧A4 Y [V3 f i k,V3 l m o] w'∧A4 O [V3 s x y,V3 q B C] w') (fun w'=>True) 4 [] mixed ⟨aN.hasK kr,aN.hasObj m1,aN.hasObj m0⟩ (fun _=>trivial) (gh (fun _ h=>B7 (ds:=[V3 f i k,V3 l m o]) E1 rfl rfl rfl h.2.1) (gh (fun _ h=>B7 (ds:=[V3 s x y,V3 q B C]) I9 rfl rfl rfl h.2.2) (gn (lw [V3 f i k,V3 l m o] E1 aN.f8 fun dE aO=>(i5 (qh ⟨aO.hasK kr,aO.hasObj m2,aO.hasObj m1⟩ (fun _=>trivial) (gn (lw [V3 s x y,V3 q B C] I9 aO.f8 fun dF aP=>(i5 (qh ⟨aP.hasK kr,aP.hasObj m3,aP.hasObj m2⟩ (fun _=>trivial) (gd' ?_)))))))))))
 refine l4 (l7 ?_)
 obtain⟨cG,aQ,cH,bb⟩:=SH.freezeI aP.f7 hrow39 hm40
 cases oi aR
 exact O8 (vs:=[_,_]) results40 ⟨⟨_,_,rfl,A5 E1 (cs:=[V3 f i k,V3 l m o]) (fun j c e=>by rw [Nat.zero_add,bb.mem_obj m2];exact e) (.inl ⟨rfl,rfl,rfl⟩)⟩,⟨_,_,rfl,A5 I9 (cs:=[V3 s x y,V3 q B C]) (fun j c e=>by rw [Nat.zero_add,bb.mem_obj m1];exact e) (.inl ⟨rfl,rfl,rfl⟩)⟩,trivial⟩ ⟨f,i,k,l,m,o,s,x,y,q,B,C,bx,bz,bA,cG,rfl,bb.f8.f1.f7.f7.s,(aa.mono aQ),(ab.mono aQ),(ac.mono aQ),cH,(bd.mono aQ),be⟩

theorem a4n {q0:List UInt8}{r:o0×A2×l3×l3}(hS:SH w K [] w K [])(aw:b7 tU8 K A a b q0)(hm:M4 F q0=some r):
  Calls prog 13 #[V3 A a b] w fun e w'=>∃a_1 n_2 c_3 a_5 n_6 c_7 a_9 n_10 c_11 a_13 n_14 c_15 K',e= .returned (.tuple #[.agg #[V3 a_1 n_2 c_3,V3 a_5 n_6 c_7],.agg #[V3 a_9 n_10 c_11,V3 a_13 n_14 c_15],sv r.2.2.1,sv r.2.2.2])∧SH w K [] w' K' [tail (V3 a_1 n_2 c_3) 9 1,tail (V3 a_5 n_6 c_7) 128 2,tail (V3 a_13 n_14 c_15) 97 3]∧b7 B3 K' a_1 n_2 c_3 r.1.Stops∧b7 G5 K' a_5 n_6 c_7 r.1.Syns∧b7 E5 K' a_9 n_10 c_11 r.2.1.Docs∧b7 B4 K' a_13 n_14 c_15 r.2.1.Entries∧r.2.2.1.length≤maxLen∧r.2.2.2.length≤maxLen:=by
 rw [M4] at hm
 refine ci func13 u ntmps13 (sr (al E1 hS fun g5 w6 ay=>?_))
 have az:SH _ _ _ _ _ [r5 g5 [V3 none 0 0,V3 none 0 0] 38]:=ay
 refine al I9 az fun g9 bg aB=>?_
 have ac:SH _ _ _ _ _ [r5 g9 [V3 none 0 0,V3 none 0 0] 43,_]:=aB
 refine lv (r_s u) (lv (r_s u) (nr (mv u ?_)))
 obtain⟨bh,aC,aD⟩:=ob hm
 refine lk c0l (a7D F ac.enter0 aw aC) ?_
 rintro bi bj ⟨bk,bl,bm,bn,bo,rfl,aE,aF,aG⟩
 have ad:=(ac.c0 aE).t3
 refine av u (nr (mv u ?_))
 obtain⟨bp,aH,aI⟩:=ob aD
 refine lk c0m (a59 F ad.e1 aF aG aH) ?_
 rintro bq br ⟨k,l,m,o,q,s,x,y,B,C,D,G,bs,bu,bv,aJ,rfl,aK,ae,af,ag,ah,ai,aj⟩
 have aL:=(ad.c1 aK).t6
 refine mv u (lv (B6 u u) (lv (B6 u u) (al E1 aL fun ak bx aM=>?_)))
 have aN:SH _ _ _ _ _ [r5 ak [V3 none 0 0,V3 none 0 0] 38,_,_,_,_,_,_]:=aM
 refine al I9 aN fun am bz aO=>?_
 have aP:SH _ _ _ _ _ [r5 am [V3 none 0 0,V3 none 0 0] 43,_,_,_,_,_,_,_]:=aO
 refine lw [V3 k l m,V3 o q s] E1 aP.f1 fun bA aQ=>(lw [V3 x y B,V3 C D G] I9 aQ.f1 fun bB aR=>(ns ?_))
 obtain⟨bC,an,aS⟩:=ob aI
 obtain⟨bD,ao,ap⟩:=ob aS
 have S:=aR.drew
 refine j_0 (fun w'=>F0 aJ w'∧A4 ak [V3 k l m,V3 o q s] w'∧A4 am [V3 x y B,V3 C D G] w') 11 [] mixed ⟨S.hasK kr,S.hasObj m1,S.hasObj m0⟩ (jh 0 u (fun _ h=>B7 (ds:=[V3 k l m,V3 o q s]) E1 u u u h.2.1) (jh 1 u (fun _ h=>B7 (ds:=[V3 x y B,V3 C D G]) I9 u u u h.2.2) (jv 2 u (i4 u) (jv 4 u (i4 u) (j2 3 5 u u ?_ ?_)))))
 ·have aq:=S.f5
  refine lk b9O (a3e F aq.e1 ai aj an) ?_
  rintro bE bF ⟨bG,bH,bI,bJ,rfl,d,aT,aU,aV⟩
  have U:=(aq.c1 d).t8
  refine j_o ⟨U.hasK d.le,U.hasObj m2,U.hasObj m1⟩ (j1 5 u (bw [[99,97,116],[100,111,103],[114,117,110],[110,121],[110,101,119],[102,111,120],[122,122],[108,97,114,103]] underlying22 D8 U fun bK bL bM H aW V=>(j_o ⟨V.hasK (d.le.trans H),V.hasObj m3,V.hasObj m2⟩ (j1 6 u ?_))))
  have ar:=V.f1
  refine lk b5I (S8 F ar.e1 (aU.mono H) aV aW ao) ?_
  rintro bN bO ⟨bP,bQ,bR,aX,rfl,I,aY,bS,bT⟩
  have W:=(ar.c1 I).t9
  refine j_o ⟨W.hasK ((d.le.trans H).trans I.le),W.hasObj m3,W.hasObj m2⟩ (j1 7 u (lw [V3 k l m,V3 o q s] E1 W.f8 fun bU X=>(j_o ⟨X.hasK ((d.le.trans H).trans I.le),X.hasObj m4,X.hasObj m3⟩ (j1 8 u (lw [V3 x y B,V3 C D G] I9 X.f8 fun bV O=>(j_o ⟨O.hasK ((d.le.trans H).trans I.le),O.hasObj m5,O.hasObj m4⟩ (jv 9 u (r4 u) (jv 10 u (r4 u) (jd ?_)))))))))
  refine l4 (l7 ?_)
  cases oi ap
  exact O8 (vs:=[_,_,_,_]) results13 ⟨⟨_,_,u,A5 E1 (cs:=[V3 k l m,V3 o q s]) (fun j c e=>by rw [Nat.zero_add,O.mem_obj m1];exact e) (.inl ⟨u,u,u⟩)⟩,⟨_,_,u,A5 I9 (cs:=[V3 x y B,V3 C D G]) (fun j c e=>by rw [Nat.zero_add,O.mem_obj m0];exact e) (.inl ⟨u,u,u⟩)⟩,u,u,trivial⟩ ⟨k,l,m,o,q,s,x,y,B,C,D,G,aX,u,O.s,(ae.mono ((d.le.trans H).trans I.le)),(af.mono ((d.le.trans H).trans I.le)),(ag.mono ((d.le.trans H).trans I.le)),(ah.mono ((d.le.trans H).trans I.le)),aT,aY⟩
 refine bw [[99,97,116],[100,111,103],[114,117,110],[110,121],[110,101,119],[102,111,120],[122,122],[108,97,114,103]] underlying22 D8 S fun bW bX bY f aZ Y=>(j_o ⟨Y.hasK f,Y.hasObj m2,Y.hasObj m1⟩ (j1 3 u ?_))
 have au:=Y.f6
 refine lk b9O (a3e F au.e1 (ai.mono f) aj an) ?_
 rintro bZ ca ⟨cb,cc,cd,ce,rfl,i,ba,bb,bc⟩
 have T:=(au.c1 i).t9
 refine j_o ⟨T.hasK (f.trans i.le),T.hasObj m3,T.hasObj m2⟩ (j1 6 u (lk b5I (S8 F T.e1 bb bc (aZ.mono i.le) ao) ?_))
 rintro cf cg ⟨ch,cj,ck,bd,rfl,J,be,cl,cm⟩
 have aa:=(T.c1 J).t9
 refine j_o ⟨aa.hasK ((f.trans i.le).trans J.le),aa.hasObj m3,aa.hasObj m2⟩ (j1 7 u (lw [V3 k l m,V3 o q s] E1 aa.f8 fun cn ab=>(j_o ⟨ab.hasK ((f.trans i.le).trans J.le),ab.hasObj m4,ab.hasObj m3⟩ (j1 8 u (lw [V3 x y B,V3 C D G] I9 ab.f8 fun cp R=>(j_o ⟨R.hasK ((f.trans i.le).trans J.le),R.hasObj m5,R.hasObj m4⟩ (jv 9 u (r4 u) (jv 10 u (r4 u) (jd ?_)))))))))
 refine l4 (l7 ?_)
 cases oi ap
 exact O8 (vs:=[_,_,_,_]) results13 ⟨⟨_,_,u,A5 E1 (cs:=[V3 k l m,V3 o q s]) (fun j c e=>by rw [Nat.zero_add,R.mem_obj m1];exact e) (.inl ⟨u,u,u⟩)⟩,⟨_,_,u,A5 I9 (cs:=[V3 x y B,V3 C D G]) (fun j c e=>by rw [Nat.zero_add,R.mem_obj m0];exact e) (.inl ⟨u,u,u⟩)⟩,u,u,trivial⟩ ⟨k,l,m,o,q,s,x,y,B,C,D,G,bd,u,R.s,(ae.mono ((f.trans i.le).trans J.le)),(af.mono ((f.trans i.le).trans J.le)),(ag.mono ((f.trans i.le).trans J.le)),(ah.mono ((f.trans i.le).trans J.le)),ba,be⟩

theorem b0I {q0:o0}{q1:A2}{r:Bool}(hS:SH w K [] w K [])(ad:b7 B3 K A a b q0.Stops)(ae:b7 G5 K B c d q0.Syns)(af:b7 E5 K C f i q1.Docs)(ag:b7 B4 K D k l q1.Entries)(hm:a0R F q0 q1=some r):
  Calls prog 50 #[.agg #[V3 A a b,V3 B c d],.agg #[V3 C f i,V3 D k l]] w (R_b w K r):=by
 rw [a0R] at hm
 refine ci func50 u ntmps50 (sr (bx u hS fun O bO aA=>?_))
 have aB:SH _ _ _ _ _ [r5 O [V3 A a b,V3 B c d] 38]:=aA
 refine bx u aB fun o bP aC=>?_
 have R:SH _ _ _ _ _ [r5 o [V3 C f i,V3 D k l] 43,_]:=aC
 refine lv (M7 u) (ns (n9 ?_))
 obtain⟨aD,aE,aF⟩:=ob hm
 refine j9 (IV w K [] K [(2,pt O),(3,pt o),(15,.bool aD)] [r5 O [V3 A a b,V3 B c d] 38,r5 o [V3 C f i,V3 D k l] 43]) ?_ ?_
 ·refine j3 (lv (s7 (ds:=[V3 A a b,V3 B c d]) E1 u m1 R u u) ?_)
  obtain⟨bQ,aG,aH⟩:=ob aE
  refine lk b9S (a58 F R.enter0 ad ae aG) ?_
  rintro bR bS ⟨aI,rfl,y⟩
  have G:=(R.c0 y).t2
  refine lv (y3 u) (mv u (bt aH (fun m S=>?_) (fun m S=>?_)))
  ·refine lu m (lu m (lu m (lu m (lv (L1 u m u) (i5 ?_)))))
   cases oi S
   exact qd ⟨aI,u,G.f1,y.le⟩
  refine lg m (c7 a0q u) (lg m (x8 a42 u m0 G u) ?_)
  obtain⟨bT,aJ,aK⟩:=ob S
  refine A7 (wg u u m) u (A6 (vs:=[V3 C f i]) c0v u) (a8H F G.enter0 (af.mono y.le) aJ) ?_
  rintro bU bV ⟨aL,rfl,ah⟩
  refine⟨_,u,?_⟩
  have aM:=(G.c0 ah).t2
  refine lg m (y3 u) (lv (m9 u m u) (i5 ?_))
  cases oi aK
  exact qd ⟨aL,u,aM.f1,(y.le.trans ah.le)⟩
 rintro _ bW ⟨aN,rfl,q,s⟩
 refine l4 (D0 aF u (fun aO T=>?_) (fun aO T=>?_))
 ·refine sr (lv (M7 u) (nq (rr ?_)))
  cases oi T
  exact ey results50 ⟨aN,u,q.s⟩
 refine i8 (qr (lv (s7 (ds:=[V3 A a b,V3 B c d]) E1 u m0 q u u) (fl a0q u a42 m1 q u ?_)))
 obtain⟨bX,aP,aQ⟩:=ob T
 refine lk b9U (a6b F q.enter0 (ad.mono s) (ae.mono s) (af.mono s) aP) ?_
 rintro bY bZ ⟨ai,aj,ak,am,an,ao,cs68,ca,rfl,U,cb,hrow69,hm70⟩
 have aR:=(q.c0 U).t4
 obtain⟨H,ap,V,aS⟩:=SH.freezeI aR.f1 hrow69 hm70
 refine al I9 aS fun W cc aT=>?_
 have aU:SH _ _ _ _ _ [r5 W [V3 none 0 0,V3 none 0 0] 43,_,_,_,_]:=aT
 refine lw [V3 ai aj ak,V3 am an ao] I9 aU fun cd I=>(Q9 (fl P7 u a2A m0 I u (lv (p7 underlying41 u V) (fl P7 u a2A m4 I u (lv (p7 underlying41 u (ag.mono ((s.trans U.le).trans ap))) (lv (U5 u u) (nq (D0 aQ u (fun aV X=>?_) (fun aV X=>?_)))))))))
 ·refine sr (lv (M7 u) (nq (rr ?_)))
  cases oi X
  exact ey results50 ⟨H,u,I.s⟩
 refine i8 (qs (sr (lv (R1 u) (nq ?_))))
 obtain⟨aW,aX,J⟩:=ob X
 refine j9 (IE aW w K [] H [] []) ?_ ?_
 ·refine i7 ?_
  obtain⟨ce,aY,aq⟩:=ob aX
  have aZ:=I.f4.sb (sk (sk (sd (sd (sd sz)))))
  refine qw (fun (Y:Int)=>IW w K [] H [(3,pt o),(5,pt W),(6,V6 Y)] [r5 o [V3 C f i,V3 D k l] 43,r5 W [V3 ai aj ak,V3 am an ao] 43] (j5 Y)) aY ⟨H,u,aZ,kr,R3⟩ ?_
  rintro Y _ cf cg ba ar ⟨bb,rfl,aa,x,ch⟩
  refine n9 (sr (mv u (fl P7 u a2A m1 aa u (lv (p7 underlying41 u (V.mono x)) (lv (o4 u u) (nq (D0 ba u (fun bc ab=>?_) (fun bc ab=>?_))))))))
  ·refine i8 (qs (i7 (n9 (D3 mixed (by kernel_rfl) aa (kv (c7 P7 u) (kh (u9 a2A u m1 u) (km u ?_)))))))
   obtain⟨au,bd,be⟩:=ob ab
   refine ki underlying41 P9 (V.mono x) bd fun bf bg cj bh bi=>?_
   obtain⟨bj,bk,bl,rfl,bm,bn,bo⟩:=bh
   have bp:D7 _ bf bg [sv au.Field,sv au.Term,V3 bj bk bl]:=bi
   refine kh (a8Q P9 u bp u) (kv (c7 P7 u) (kh (u9 a2A u m0 u) (km u ?_)))
   obtain⟨aw,bq,br⟩:=ob be
   refine ki underlying41 P9 (b7.mono (((s.trans U.le).trans ap).trans x) ag) bq fun bs bu ck bv bz=>?_
   obtain⟨bA,bB,bC,rfl,bD,bE,bF⟩:=bv
   have bG:D7 _ bs bu [sv aw.Field,sv aw.Term,V3 bA bB bC]:=bz
   refine kh (a8Q P9 u bG u) ?_
   obtain⟨cl,bH,bI⟩:=ob br
   refine kc c0F (fun _ _ bJ ax=>(a41 F) bJ.enter0 bm bn (bo.mono ax) bD bE (bF.mono ax) bH) (kv (y3 u) (A3 ?_))
   rintro cm ⟨ay,az,bK⟩
   refine l4 (D0 bI u (fun bL ac=>?_) (fun bL ac=>?_))
   ·refine sr (lv (M7 u) (nq (l7 (j4 (g6 (g6 ?_))))))
    cases oi ac
    cases ar _ u
    refine j4 (g6 ?_)
    cases oi aq
    refine g6 ?_
    cases oi J
    exact ey results50 ⟨ay,u,az.s⟩
   refine i8 (q7 (l4 (j3 (mv u (lv (u6 u u) (av u (i5 ?_)))))))
   cases oi ac
   exact qd ⟨_,u,ay,u,az,(x.trans bK),(s6 _)⟩
  refine p9 (c9 (c9 ?_))
  cases oi ab
  cases ar _ u
  refine j7 ?_
  cases oi aq
  exact I6 ⟨_,bb,u,u,aa.s,x⟩ trivial
 rintro _ cn ⟨cp,bM,rfl,rfl,bN,cq⟩
 have J:=D9 J
 refine qr (lv (r_t u) (nq (l7 ?_)))
 cases oi J
 exact ey results50 ⟨bM,u,bN⟩

theorem a9r {q0:o0}{q1:A2}{r:Bool}(hS:SH w K [] w K [])(o:b7 B3 K A a b q0.Stops)(q:b7 G5 K B c d q0.Syns)(s:b7 E5 K C f i q1.Docs)(x:b7 B4 K D k l q1.Entries)(hm:a01 F q0 q1=some r):
  Calls prog 16 #[.agg #[V3 A a b,V3 B c d],.agg #[V3 C f i,V3 D k l]] w (R_b w K r):=by
 rw [a01] at hm
 refine ci func16 u ntmps16 (sr (bx u hS fun y V G=>?_))
 have H:SH _ _ _ _ _ [r5 y [V3 A a b,V3 B c d] 38]:=G
 refine bx u H fun I W J=>?_
 have m:SH _ _ _ _ _ [r5 I [V3 C f i,V3 D k l] 43,_]:=J
 refine lv (M7 u) (nr (lv (s7 (ds:=[V3 A a b,V3 B c d]) E1 u m1 m u u) (lv (s7 (ds:=[V3 C f i,V3 D k l]) I9 u m0 m u u) ?_)))
 obtain⟨X,O,R⟩:=ob hm
 refine lk c0q (b0I F m.enter0 o q s x O) ?_
 rintro Y aa ⟨S,rfl,T⟩
 have U:=(m.c0 T).t2
 refine av u (nq (l7 ?_))
 cases oi R
 exact ey results16 ⟨S,u,U.s⟩

theorem a8D {q0:o0}{q1:l3}{q2:List l3}{q3:Int}{r:Int}(hS:SH w K [] w K [])(af:b7 B3 K A a b q0.Stops)(ag:b7 G5 K B c d q0.Syns)(R:q1.length≤maxLen)(s:b7 B3 K C f i q2)(ah:j5 q3)(hm:a0w F q0 q1 q2 q3=some r):
  Calls prog 57 #[.agg #[V3 A a b,V3 B c d],sv q1,V3 C f i,V6 q3] w (R_i w K r):=by
 rw [a0w] at hm
 refine ci func57 u ntmps57 (sr (bx u hS fun l bU ax=>?_))
 have ay:SH _ _ _ _ _ [r5 l [V3 A a b,V3 B c d] 38]:=ax
 refine lv (R1 u) (Q9 (lv (R1 u) (nq ?_)))
 obtain⟨az,aA,H⟩:=ob hm
 refine j9 (IE az w K [] K [(1,sv q1),(2,V3 C f i),(3,V6 q3),(4,pt l)] [r5 l [V3 A a b,V3 B c d] 38]) ?_ ?_
 ·refine i7 ?_
  obtain⟨bV,aB,ai⟩:=ob aA
  refine qw (fun (I:Int)=>IW w K [] K [(1,sv q1),(2,V3 C f i),(3,V6 q3),(4,pt l),(9,V6 I)] [r5 l [V3 A a b,V3 B c d] 38] (j5 I)) aB ⟨K,u,ay,kr,R3⟩ ?_
  rintro I _ bW bX aC aj ⟨ak,rfl,al,x,bY⟩
  refine n9 (sr (mv u (mv u (lv (p7 underlying22 u (s.mono x)) (lv (o4 u u) (nq (D0 aC u (fun aD S=>?_) (fun aD S=>?_))))))))
  ·refine i8 (qs (i7 (n9 ?_)))
   obtain⟨aE,aF,aG⟩:=ob S
   refine j9 (IV w K [] ak [(1,sv q1),(2,V3 C f i),(3,V6 q3),(4,pt l),(9,V6 I),(31,.bool aE)] [r5 l [V3 A a b,V3 B c d] 38]) ?_ ?_
   ·refine D3 mixed (by kernel_rfl) al (km u (km u ?_))
    obtain⟨aH,aI,aJ⟩:=ob aF
    refine ki underlying22 D8 (s.mono x) aI fun aK aL bZ aM aN=>?_
    obtain⟨rfl,aO⟩:=aM
    have aP:D7 _ aK aL [sv aH]:=aN
    refine kh (z7 D8 u (aP 0 _ u)) ?_
    obtain⟨ca,aQ,aR⟩:=ob aJ
    refine kc a9A (fun _ _ aS cb=>(N7 F) aS.enter0 aO aQ) (kv (y3 u) (km u (bt aR (fun k T=>?_) (fun k T=>?_))))
    ·iterate 8 refine kn k ?_
     refine kv (L1 u k u) (A3 ?_)
     rintro cc ⟨aT,aU,aV⟩
     cases oi T
     exact qd ⟨aT,u,aU,aV⟩
    refine kg k (i4 u) (kg k (i4 u) ?_)
    obtain⟨cd,aW,aX⟩:=ob T
    refine b7S (t:=B3) (wg u u k) u underlying22 D8 u u (s.mono x) aW fun ce cf cg aY=>(kg k (i4 u) (kg k (i4 u) ?_))
    obtain⟨aZ,ba,bb⟩:=ob aX
    refine A8 (t:=B3) (wg u u k) u underlying22 D8 u u (s.mono x) ba fun bc bd ch be bf=>?_
    obtain⟨rfl,bg⟩:=be
    have bh:D7 _ bc bd [sv aZ]:=bf
    refine kgh k (z7 D8 u (bh 0 _ u)) ?_
    obtain⟨cj,bi,bj⟩:=ob bb
    refine kcg k b5K (fun _ _ bk bl=>(a0F F) bk.enter0 (aY.mono bl) bg bi) (kv (m9 u k u) (A3 ?_))
    rintro ck ⟨bm,bn,bo⟩
    cases oi bj
    exact qd ⟨bm,u,bn,bo⟩
   rintro _ cl ⟨am,rfl,an,bp⟩
   refine l4 (D0 aG u (fun bq U=>?_) (fun bq U=>?_))
   ·refine sr (lv (r4 (v:=V6 (-1)) u) (nq (l7 (j4 (g6 (g6 ?_))))))
    cases oi U
    cases aj _ u
    refine j4 (g6 ?_)
    cases oi ai
    refine g6 ?_
    cases oi H
    exact ey results57 ⟨am,u,an.s,(by decide :j5 (-1))⟩
   refine i8 (q7 (l4 (j3 (mv u (lv (u6 u u) (av u (i5 ?_)))))))
   cases oi U
   exact qd ⟨_,u,am,u,an,(x.trans bp),(s6 _)⟩
  refine p9 (c9 (c9 ?_))
  cases oi S
  cases aj _ u
  refine j7 ?_
  cases oi ai
  exact qd ⟨_,ak,u,u,al,x⟩
 rintro _ cm ⟨cn,br,rfl,rfl,V,y⟩
 have H:=D9 H
 refine qs (n9 ?_)
 obtain⟨bs,bu,bv⟩:=ob H
 refine j9 (IV w K [] br [(1,sv q1),(2,V3 C f i),(3,V6 q3),(4,pt l),(49,.bool bs)] [r5 l [V3 A a b,V3 B c d] 38]) ?_ ?_
 ·refine j3 (lv (s7 (ds:=[V3 A a b,V3 B c d]) E1 u m0 V u u) ?_)
  obtain⟨cp,bz,bA⟩:=ob bu
  refine lk b9S (a58 F V.enter0 (af.mono y) (ag.mono y) bz) ?_
  rintro cq cr ⟨bB,rfl,D⟩
  have W:=(V.c0 D).t1
  refine lv (y3 u) (mv u (bt bA (fun m X=>?_) (fun m X=>?_)))
  ·refine lu m (lu m (lu m (lv (L1 u m u) (mv u (lu u (lu u (lu u (lv (L1 u u u) (mv u ?_)))))))))
   refine lu u (lu u (lu u (lv (L1 u u u) (i5 ?_))))
   cases oi X
   exact qd ⟨bB,u,W,D.le⟩
  refine lg m (i4 u) ?_
  obtain⟨cs,bC,bD⟩:=ob X
  refine A7 (wg u u m) u (A6 (vs:=[sv q1]) b7U u) (a4o F W.enter0 R bC) ?_
  rintro ct cu ⟨bE,rfl,G⟩
  refine⟨_,u,?_⟩
  have Y:=(W.c0 G).t1
  refine lg m (y3 u) (lv (m9 u m u) (mv u (bt bD (fun o aa=>?_) (fun o aa=>?_))))
  ·refine lu o (lu o (lu o (lv (L1 u o u) (mv u (lu u (lu u (lu u (lv (L1 u u u) (i5 ?_)))))))))
   cases oi aa
   exact qd ⟨bE,u,Y,(D.le.trans G.le)⟩
  refine lg o (i4 u) ?_
  obtain⟨cv,bF,bG⟩:=ob aa
  refine A7 (wg u u o) u (A6 (vs:=[V6 q3,V6 1,V6 12]) a8b u) (U1 F Y.enter0 ah (by decide :j5 1) (by decide :j5 12) bF) ?_
  rintro cw cx ⟨ao,rfl,J⟩
  refine⟨_,u,?_⟩
  have ap:=(Y.c0 J).t1
  refine lg o (y3 u) (lv (m9 u o u) (mv u (bt bG (fun q ab=>?_) (fun q ab=>?_))))
  ·refine lu q (lu q (lu q (lv (L1 u q u) (i5 ?_))))
   cases oi ab
   exact qd ⟨ao,u,ap,((D.le.trans G.le).trans J.le)⟩
  refine lg q (i4 u) (lg q (p7 underlying22 u (b7.mono (((y.trans D.le).trans G.le).trans J.le) s)) (lg q (E9 u u) (lv (m9 u q u) (i5 ?_))))
  cases oi ab
  exact qd ⟨ao,u,ap,((D.le.trans G.le).trans J.le)⟩
 rintro _ cy ⟨bH,rfl,O,ac⟩
 refine l4 (D0 bv u (fun bI ad=>?_) (fun bI ad=>?_))
 ·refine sr (lv (r4 (v:=V6 (-1)) u) (nq (rr ?_)))
  cases oi ad
  exact ey results57 ⟨bH,u,O.s,(by decide :j5 (-1))⟩
 refine i8 (qr (lv (s7 (ds:=[V3 A a b,V3 B c d]) E1 u m0 O u u) (mv u ?_)))
 obtain⟨cz,bJ,bK⟩:=ob ad
 refine lk b60 (a0K F O.enter0 (af.mono (y.trans ac)) (ag.mono (y.trans ac)) R bJ) ?_
 rintro cA cB ⟨cC,cD,cE,cF,rfl,aq,bL⟩
 have ar:=(O.c0 aq).t2
 refine mv u ?_
 obtain⟨cG,bM,bN⟩:=ob bK
 refine lk b8u (a10 F ar.enter0 R bM) ?_
 rintro cH cI ⟨cJ,cK,cL,cM,rfl,ae,au⟩
 have aw:=(ar.c0 ae).t3
 refine lv (p7 underlying110 u au) (mv u (mv u ?_))
 obtain⟨cN,bO,bP⟩:=ob bN
 refine lk b89 (a7y F aw.enter0 (bL.mono ae.le) au.rn (b7.mono (((y.trans ac).trans aq.le).trans ae.le) s) ah bO) ?_
 rintro cO cP ⟨bQ,rfl,bR,bS⟩
 have bT:=(aw.c0 bR).t3
 refine av u (nq (l7 ?_))
 cases oi bP
 exact ey results57 ⟨bQ,u,bT.s,bS⟩

theorem a6K {q0:o0}{q1:l3}{q2:List l3}{q3:Int}{r:l3}(hS:SH w K [] w K [])(aA:b7 B3 K A a b q0.Stops)(aB:b7 G5 K B c d q0.Syns)(V:q1.length≤maxLen)(aC:b7 B3 K C f i q2)(aZ:j5 q3)(hm:V5 F q0 q1 q2 q3=some r):
  Calls prog 20 #[.agg #[V3 A a b,V3 B c d],sv q1,V3 C f i,V6 q3] w fun e w'=>∃K',e= .returned (sv r)∧SH w K [] w' K' []∧r.length≤maxLen:=by
 rw [V5] at hm
 refine ci func20 u ntmps20 (sr (bx u hS fun ba cU bb=>?_))
 have ac:SH _ _ _ _ _ [r5 ba [V3 A a b,V3 B c d] 38]:=bb
 refine lv (r_s u) (nr (lv (s7 (ds:=[V3 A a b,V3 B c d]) E1 u m0 ac u u) (mv u (mv u (mv u ?_)))))
 obtain⟨q,bc,bd⟩:=ob hm
 refine lk c0u (a8D F ac.enter0 aA aB V aC aZ bc) ?_
 rintro cV cW ⟨be,rfl,W,bf⟩
 have ad:=(ac.c0 W).t1
 refine av u (Q9 (mv u (lv (o4 u u) (nq (D0 bd u (fun bg ae=>?_) (fun bg ae=>?_))))))
 ·refine sr (lv (r_s u) (nq (rr ?_)))
  cases oi ae
  exact ey results20 ⟨be,u,ad.s,(by decide :([]:l3).length≤maxLen)⟩
 refine i8 (qr (mv u ?_))
 obtain⟨cX,bh,bi⟩:=ob ae
 refine lk b8u (a10 F ad.enter0 V bh) ?_
 rintro cY cZ ⟨x,y,D,da,rfl,X,Y⟩
 have af:=(ad.c0 X).t2
 refine av u (nr (lv (s7 (ds:=[V3 A a b,V3 B c d]) E1 u m1 af u u) (mv u ?_)))
 obtain⟨db,bj,bk⟩:=ob bi
 refine lk b60 (a0K F af.enter0 (aA.mono (W.le.trans X.le)) (aB.mono (W.le.trans X.le)) V bj) ?_
 rintro dc dd ⟨J,O,R,ag,rfl,S,ah⟩
 have bl:=(af.c0 S).t3
 refine av u (nr (lv (r_s u) (Q9 (mv u (av u (nq ?_))))))
 obtain⟨aD,bm,bn⟩:=ob bk
 refine j9 (IW w K [] ag [(3,V6 q3),(9,V6 q),(10,V3 x y D),(12,sv aD)] [] (aD.length≤maxLen)) ?_ ?_
 ·refine i7 ?_
  obtain⟨de,bo,bp⟩:=ob bm
  have bq:=bl.sb (sd (sd (sd sz)))
  refine qw (fun (k:l3×Int)=>IW w K [] ag [(1,sv q1),(2,V3 C f i),(3,V6 q3),(9,V6 q),(10,V3 x y D),(11,V3 J O R),(12,sv k.1),(13,V6 k.2)] [] (k.1.length≤maxLen∧j5 k.2)) bo ⟨ag,u,bq,kr,(by decide :([]:l3).length≤maxLen),bf⟩ ?_
  rintro k _ df dg br bs ⟨ai,rfl,aE,o,aF,dh⟩
  refine n9 (n9 ?_)
  obtain⟨bu,bv,bz⟩:=ob br
  refine j9 (IV w K [] ai [(1,sv q1),(2,V3 C f i),(3,V6 q3),(9,V6 q),(10,V3 x y D),(11,V3 J O R),(12,sv k.1),(13,V6 k.2),(39,.bool bu)] []) ?_ ?_
  ·refine j3 (mv u (mv u (mv u (lv (u6 u u) (lv (o4 u u) (mv u (bt bv (fun l aj=>?_) (fun l aj=>?_))))))))
   ·refine lg l (i4 u) (lg l (i4 u) (lg l (p7 underlying110 u (Y.mono (S.le.trans o))) (lg l (o4 u u) (lv (q8 u l u) (i5 ?_)))))
    cases oi aj
    exact qd ⟨ai,u,aE,kr⟩
   refine lu l (lu l (lu l (lu l (lv (X8 u l u) (i5 ?_)))))
   cases oi aj
   exact qd ⟨ai,u,aE,kr⟩
  rintro _ di ⟨bA,rfl,aG,G⟩
  refine l4 (D0 bz u (fun bB ak=>?_) (fun bB ak=>?_))
  ·refine i8 (qs (i7 (n9 (D3 mixed (by kernel_rfl) aG (km u (km u (km u ?_)))))))
   obtain⟨aa,bC,bD⟩:=ob ak
   refine ki underlying110 a0p (Y.mono ((S.le.trans o).trans G)) bC fun bE bF dj bG bH=>?_
   obtain⟨rfl,dk,dl,dm,dn⟩:=bG
   have bI:D7 _ bE bF [sv aa.Text,V6 aa.At,V6 aa.From,V6 aa.To]:=bH
   refine kv (c7 b3s u) (kh (z7 G4 u (bI 2 _ u)) (km u (km u ?_)))
   obtain⟨ab,bJ,bK⟩:=ob bD
   refine ki underlying110 a0p (Y.mono ((S.le.trans o).trans G)) bJ fun bL bM dp bN bO=>?_
   obtain⟨rfl,dq,dr,dt,du⟩:=bN
   have bP:D7 _ bL bM [sv ab.Text,V6 ab.At,V6 ab.From,V6 ab.To]:=bO
   refine kv (c7 b0m u) (kh (z7 G4 u (bP 3 _ u)) ?_)
   obtain⟨dv,aH,bQ⟩:=ob bK
   refine kv (a91 underlying9 u u u aH) (kv (r4 u) (A3 ?_))
   rintro dw ⟨al,bR,U⟩
   refine qs (sr (lv (R1 u) (nq ?_)))
   obtain⟨am,bS,bT⟩:=ob bQ
   refine j9 (IW w K [] al [(1,sv q1),(2,V3 C f i),(3,V6 q3),(9,V6 q),(10,V3 x y D),(11,V3 J O R),(12,sv k.1),(13,V6 k.2),(14,sv am)] [] (am.length≤maxLen)) ?_ ?_
   ·refine i7 ?_
    obtain⟨dx,bU,bV⟩:=ob bS
    refine qw (fun (H:l3×Int)=>IW w K [] al [(1,sv q1),(2,V3 C f i),(3,V6 q3),(9,V6 q),(10,V3 x y D),(11,V3 J O R),(12,sv k.1),(13,V6 k.2),(14,sv H.1),(15,V6 H.2)] [] (H.1.length≤maxLen∧j5 H.2)) bU ⟨al,u,bR,kr,(a1H V aH),R3⟩ ?_
    rintro H _ dy dz bW bX ⟨an,rfl,T,I,aI,dA⟩
    refine n9 (sr (mv u (mv u (lv (p7 underlying101 u (b7.mono (((o.trans G).trans U).trans I) ah)) (lv (o4 u u) (nq (D0 bW u (fun bY ao=>?_) (fun bY ao=>?_))))))))
    ·refine i8 (qs (i7 (n9 ?_)))
     obtain⟨bZ,ca,cb⟩:=ob ao
     refine j9 (IV w K [] an [(1,sv q1),(2,V3 C f i),(3,V6 q3),(9,V6 q),(10,V3 x y D),(11,V3 J O R),(12,sv k.1),(13,V6 k.2),(14,sv H.1),(15,V6 H.2),(75,.bool bZ)] []) ?_ ?_
     ·refine j3 (mv u (mv u ?_))
      obtain⟨aJ,cc,cd⟩:=ob ca
      refine li underlying101 E3 (b7.mono (((o.trans G).trans U).trans I) ah) cc fun ce cf dB cg ch=>?_
      obtain⟨rfl,dC,dD⟩:=cg
      have cj:D7 _ ce cf [sv aJ.Text,V6 aJ.At]:=ch
      refine fa a0i u (lv (z2 G4 u T (cj 1 _ u)) (mv u (lv (F7 u u) (mv u (bt cd (fun m ap=>?_) (fun m ap=>?_))))))
      ·refine lg m (i4 u) (lg m (i4 u) (lg m (i4 u) ?_))
       obtain⟨aq,ck,cl⟩:=ob ap
       refine Q8 (t:=G2) (wg u u m) u underlying101 E3 u u (b7.mono (((o.trans G).trans U).trans I) ah) ck fun cm cn dE cp cq=>?_
       obtain⟨rfl,cr,dF⟩:=cp
       have cs:D7 _ cm cn [sv aq.Text,V6 aq.At]:=cq
       refine lg m (c7 a0h u) (lg m (z2 D8 u T (cs 0 _ u)) ?_)
       obtain⟨dG,ct,cu⟩:=ob cl
       refine A7 (wg u u m) u (A6 (vs:=[V3 C f i,sv aq.Text]) b5K u) (a0F F T.enter0 (b7.mono ((((((W.le.trans X.le).trans S.le).trans o).trans G).trans U).trans I) aC) cr ct) ?_
       rintro dH dI ⟨cv,rfl,aK⟩
       refine⟨_,u,?_⟩
       have cw:=(T.c0 aK).t0
       refine lv (q8 u m u) (i5 ?_)
       cases oi cu
       exact qd ⟨cv,u,cw,aK.le⟩
      iterate 7 refine lu m ?_
      refine lv (X8 u m u) (i5 ?_)
      cases oi ap
      exact qd ⟨an,u,T,kr⟩
     rintro _ dJ ⟨aL,rfl,aM,aN⟩
     refine l4 (D0 cb u (fun cx ar=>?_) (fun cx ar=>?_))
     ·refine j3 (mv u ?_)
      obtain⟨dK,cy,cz⟩:=ob ar
      refine lv (a0L (s:=([91]:l3)) u u cy) ?_
      obtain⟨dL,aO,cA⟩:=ob cz
      refine lv (a0L (r:=([93]:l3)) u u aO) (av u (nb (l4 (j3 (mv u (lv (u6 u u) (av u (i5 ?_))))))))
      cases oi cA
      exact qd ⟨_,u,aL,u,aM,(I.trans aN),(a2b aO),(s6 _)⟩
     refine i8 (q7 (l4 (j3 (mv u (lv (u6 u u) (av u (i5 ?_)))))))
     cases oi ar
     exact qd ⟨_,u,aL,u,aM,(I.trans aN),aI,(s6 _)⟩
    refine p9 (c9 (c9 ?_))
    cases oi ao
    cases bX _ u
    refine j7 ?_
    cases oi bV
    exact qd ⟨an,u,T,I,aI⟩
   rintro _ dM ⟨au,rfl,aP,cB,dN⟩
   refine qs (sr (mv u (mv u (lv (E9 u u) (nq ?_)))))
   obtain⟨aQ,cC,cD⟩:=ob bT
   refine j9 (IW w K [] au [(1,sv q1),(2,V3 C f i),(3,V6 q3),(9,V6 q),(10,V3 x y D),(11,V3 J O R),(12,sv aQ),(13,V6 k.2),(14,sv am)] [] (aQ.length≤maxLen)) ?_ ?_
   ·refine D0 cC u (fun cE aw=>?_) (fun cE aw=>?_)
    ·refine j3 (mv u ?_)
     obtain⟨dO,aR,cF⟩:=ob aw
     refine lv (a0L (r:=([32]:l3)) u u aR) (av u (i5 ?_))
     cases oi cF
     exact qd ⟨au,u,aP,kr,(a2b aR)⟩
    refine i8 ?_
    cases oi aw
    exact qd ⟨au,u,aP,kr,aF⟩
   rintro _ dP ⟨cG,rfl,cH,cI,dQ⟩
   refine l4 (j3 (mv u (mv u ?_)))
   obtain⟨dR,aS,cJ⟩:=ob cD
   refine lv (a0L u u aS) (av u (nb (l4 (j3 (mv u (lv (u6 u u) (av u (i5 ?_))))))))
   cases oi cJ
   exact qd ⟨_,u,cG,u,cH,((((o.trans G).trans U).trans cB).trans cI),(a2b aS),(s6 _)⟩
  refine p9 (c9 (c9 ?_))
  cases oi ak
  cases bs _ u
  refine j7 ?_
  cases oi bp
  exact qd ⟨bA,u,aG,(o.trans G),aF⟩
 rintro _ dS ⟨ax,rfl,aT,cK,cL⟩
 refine qs (sr (mv u (lv (E9 u u) (nq ?_))))
 obtain⟨aU,cM,cN⟩:=ob bn
 refine j9 (IW w K [] ax [(3,V6 q3),(9,V6 q),(10,V3 x y D),(12,sv aU)] [] (aU.length≤maxLen)) ?_ ?_
 ·refine D0 cM u (fun cO ay=>?_) (fun cO ay=>?_)
  ·refine j3 (mv u ?_)
   obtain⟨dT,aV,cP⟩:=ob ay
   refine lv (a0L (s:=([46,46,32]:l3)) u u aV) (av u (i5 ?_))
   cases oi cP
   exact qd ⟨ax,u,aT,kr,(a2b aV)⟩
  refine i8 ?_
  cases oi ay
  exact qd ⟨ax,u,aT,kr,cL⟩
 rintro _ dU ⟨aW,rfl,aX,cQ,cR⟩
 refine qs (sr (mv u (mv u (lv (u6 u u) (mv u (lv (p7 underlying110 u (Y.mono ((S.le.trans cK).trans cQ))) (lv (o4 u u) (nq (D0 cN u (fun cS az=>?_) (fun cS az=>?_))))))))))
 ·refine j3 (mv u ?_)
  obtain⟨dV,aY,cT⟩:=ob az
  refine lv (a0L (r:=([32,46,46]:l3)) u u aY) (av u (nr (mv u (av u (nq (l7 ?_))))))
  cases oi cT
  exact ey results20 ⟨aW,u,aX,(a2b aY)⟩
 refine i8 (qr (mv u (av u (nq (l7 ?_)))))
 cases oi az
 exact ey results20 ⟨aW,u,aX,cR⟩
end Go.Proofs.YtpdfkjjmcnhakaaGreatDoor
