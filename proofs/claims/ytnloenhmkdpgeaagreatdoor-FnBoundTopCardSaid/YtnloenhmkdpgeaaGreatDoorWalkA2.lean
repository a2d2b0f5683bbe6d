/-
 Walks of the functions. Printed by gen.py.
-/
import Derived.Test.YtnloenhmkdpgeaaGreatDoorFacts
set_option linter.unusedVariables false
set_option linter.unusedSectionVars false
set_option maxRecDepth 100000
namespace Go.Proofs.YtnloenhmkdpgeaaGreatDoor
set_option maxHeartbeats 4000000
open Go Go.Fk Go.RowKit Tryz
variable (F:Nat){w:World}{K:F9}{Z:List Nat}{g1 g2 g3:Nat}{A B C D G H I J O R S T:Option Addr}{a b c d f i k l m n o p q s v x y aa ab ac ad ae af ag:Nat}
variable [dr:Dr]

theorem a9F {q0:List r4}{q1:r4}{r:(List r4)}(hS:SH w K Z w K [tail (V3 A a b) 9 1])(f:b7 D9 K A a b q0)(T:q1.length≤maxLen)(hm:a0O F q0 q1=some r):
  Calls prog 198 #[V3 A a b,sv q1] w fun e w'=>∃a_1 n_2 c_3 K',e= .returned (V3 a_1 n_2 c_3)∧SH w K Z w' K' [tail (V3 a_1 n_2 c_3) 9 1]∧b7 D9 K' a_1 n_2 c_3 r:=by
 rw [a0O] at hm
 refine ci func198 u ntmps198 (sr (lv (r_n u) (nr (lv (N2 u) (ns ?_)))))
 obtain⟨m,U,V⟩:=ob hm
 refine l4 (IW w K Z K [(0,V3 A a b),(1,sv q1),(5,V6 m)] [tail (V3 A a b) 9 1] (i7 m)) ?_ ?_
 ·refine j7 ?_
  obtain⟨bg,W,X⟩:=ob U
  refine qw (fun (k:Int)=>IW w K Z K [(0,V3 A a b),(1,sv q1),(5,V6 k)] [tail (V3 A a b) 9 1] (i7 k)) W ⟨K,u,hS,kr,I5⟩ ?_
  rintro k _ bh bi Y aa ⟨o,rfl,q,l,ab⟩
  refine o4 (o4 ?_)
  obtain⟨ac,ad,ae⟩:=ob Y
  refine l4 (IV w K Z o [(0,V3 A a b),(1,sv q1),(5,V6 k),(18,.bool ac)] [tail (V3 A a b) 9 1]) ?_ ?_
  ·refine j5 (mv u (mv u (lv (q9 underlying23 u (f.mono l)) (lv (u7 u u) (mv u (bt ad (fun c s=>?_) (fun c s=>?_)))))))
   ·refine lg c (i5 u) (lg c (i5 u) ?_)
    obtain⟨af,ag,ah⟩:=ob s
    refine N1 (t:=D9) (wg u u c) u underlying23 G7 u u (f.mono l) ag fun ai aj bj ak al=>?_
    obtain⟨rfl,bk⟩:=ak
    have am:F1 _ ai aj [sv af]:=al
    refine lg c (y9 G7 u q (am 0 _ u)) (lg c (i5 u) (lg c (b9A u u) (lv (n9 u c u) (i8 ?_))))
    cases oi ah
    exact qd ⟨o,u,q,kr⟩
   iterate 6 refine lu c ?_
   refine lv (L8 u c u) (i8 ?_)
   cases oi s
   exact qd ⟨o,u,q,kr⟩
  rintro _ bl ⟨H,rfl,I,J⟩
  refine l5 (D5 ae u (fun an x=>?_) (fun an x=>?_))
  ·refine j3 (l5 (j7 (j5 (mv u (lv (y7 u u) (av u (nb ?_)))))))
   cases oi x
   exact qd ⟨_,u,H,u,I,(l.trans J),(u0 _)⟩
  refine y4 (g8 (g8 ?_))
  cases oi x
  cases aa _ u
  refine l6 ?_
  cases oi X
  exact qd ⟨H,u,I,(l.trans J),ab⟩
 rintro _ bm ⟨y,rfl,B,i,bn⟩
 refine qs (o4 ?_)
 obtain⟨ao,ap,aq⟩:=ob V
 refine l4 (IV w K Z y [(0,V3 A a b),(1,sv q1),(5,V6 m),(32,.bool ao)] [tail (V3 A a b) 9 1]) ?_ ?_
 ·refine j5 (mv u (mv u (lv (q9 underlying23 u (f.mono i)) (lv (u7 u u) (mv u (bt ap (fun d C=>?_) (fun d C=>?_)))))))
  ·refine lg d (i5 u) (lg d (i5 u) ?_)
   obtain⟨ar,au,aw⟩:=ob C
   refine N1 (t:=D9) (wg u u d) u underlying23 G7 u u (f.mono i) au fun ax ay bo az aA=>?_
   obtain⟨rfl,bp⟩:=az
   have aB:F1 _ ax ay [sv ar]:=aA
   refine lg d (y9 G7 u B (aB 0 _ u)) (lg d (i5 u) (lg d (J8 u u) (lv (n9 u d u) (i8 ?_))))
   cases oi aw
   exact qd ⟨y,u,B,kr⟩
  iterate 6 refine lu d ?_
  refine lv (L8 u d u) (i8 ?_)
  cases oi C
  exact qd ⟨y,u,B,kr⟩
 rintro _ bq ⟨aC,rfl,O,D⟩
 refine l5 (D5 aq u (fun aD G=>?_) (fun aD G=>?_))
 ·refine sr (mv u (av u (nq (rr ?_))))
  cases oi G
  exact ey results198 ⟨A,a,b,aC,u,O,(f.mono (i.trans D))⟩
 refine j3 (qr (b0 D9 underlying23 G7 O fun br bs bu R aE aF=>(mv u (mv u ?_))))
 obtain⟨bv,aG,aH⟩:=ob G
 refine a7z (t:=D9) wn u underlying23 G7 u u (f.mono ((i.trans D).trans R)) aG fun bx bz bA aI=>?_
 obtain⟨bB,aJ,aK⟩:=ob aH
 refine lp underlying23 G7 aE aI aJ aF fun bC bD bE bF bG aL aM aN=>(av u (nr (mv u (mv u (lb D9 (sv q1) [sv q1] q1 underlying23 G7 ⟨u,T⟩ aN fun bH bI bJ S aO aP=>?_)))))
 obtain⟨bK,aQ,aR⟩:=ob aK
 refine lp underlying23 G7 (aM.mono S) aO aQ aP.f1 fun bL bM bN bO bP aS aT aU=>(av u (nr (mv u (mv u (mv u ?_)))))
 obtain⟨bQ,aV,aW⟩:=ob aR
 refine a9h (t:=D9) wn u underlying23 G7 u u (b7.mono (((((i.trans D).trans R).trans aL).trans S).trans aS) f) aV fun bR bS bT aX=>?_
 obtain⟨bU,aY,aZ⟩:=ob aW
 refine lp underlying23 G7 aT aX aY aU fun ba bb bc bV bd bW be bf=>(av u (nq (j9 ?_)))
 cases oi aZ
 exact ey results198 ⟨ba,bb,bc,bd,u,bf.s,be⟩

theorem b2Q {q0:List A1}{r:(List r4)}(hS:SH w K [] w K [])(S:b7 F6 K A a b q0)(hm:a2W F q0=some r):
  Calls prog 160 #[V3 A a b] w fun e w'=>∃a_1 n_2 c_3 K',e= .returned (V3 a_1 n_2 c_3)∧SH w K [] w' K' [tail (V3 a_1 n_2 c_3) 9 1]∧b7 D9 K' a_1 n_2 c_3 r:=by
 rw [a2W] at hm
 refine ci func160 u ntmps160 (sr (lv (r_n u) (nr (b0 D9 underlying23 G7 hS fun a5 w6 T U ae af=>(av u (O7 (lv (N2 u) (nq ?_))))))))
 obtain⟨ag,ah,ai⟩:=ob hm
 refine l4 (fun E' w'=>∃m o q s,E'=[(3,V3 m o q)]∧SH w K [] w' s [tail (V3 m o q) 9 1]∧M0 T s∧b7 D9 s m o q ag) ?_ ?_
 ·refine j7 ?_
  obtain⟨bC,aj,ak⟩:=ob ah
  refine qw (fun (d:(List r4)×Int) E' w'=>∃f i k c,E'=[(0,V3 A a b),(3,V3 f i k),(4,V6 d.2)]∧SH w K [] w' c [tail (V3 f i k) 9 1]∧M0 T c∧b7 D9 c f i k d.1∧i7 d.2) aj ⟨a5,0,0,T,u,af,kr,ae,I5⟩ ?_
  rintro d _ bD bE al am ⟨f,i,k,c,rfl,X,x,Y,bF⟩
  refine o4 (sr (mv u (mv u (lv (q9 underlying27 u (S.mono (U.trans x))) (lv (u7 u u) (nq (D5 al u (fun an V=>?_) (fun an V=>?_))))))))
  ·refine j3 (qs (j7 (sr (lv (N2 u) (nq ?_)))))
   obtain⟨ao,ap,aq⟩:=ob V
   refine l4 (fun E' w'=>∃y B C D,E'=[(0,V3 A a b),(3,V3 y B C),(4,V6 d.2)]∧SH w K [] w' D [tail (V3 y B C) 9 1]∧M0 c D∧b7 D9 D y B C ao) ?_ ?_
   ·refine j7 ?_
    obtain⟨bG,ar,au⟩:=ob ap
    refine qw (fun (O:(List r4)×Int) E' w'=>∃G H I J,E'=[(0,V3 A a b),(3,V3 G H I),(4,V6 d.2),(5,V6 O.2)]∧SH w K [] w' J [tail (V3 G H I) 9 1]∧M0 c J∧b7 D9 J G H I O.1∧i7 O.2) ar ⟨f,i,k,c,u,X,kr,Y,I5⟩ ?_
    rintro O _ bH bI aw ax ⟨G,H,I,J,rfl,l,R,aa,bJ⟩
    refine o4 (sr (mv u (mv u (mv u ?_))))
    obtain⟨ay,az,aA⟩:=ob aw
    refine li underlying27 E8 (S.mono ((U.trans x).trans R)) az fun aB aC bK aD aE=>?_
    obtain⟨aF,aG,aH,aI,aJ,aK,rfl,bL,aL,bM⟩:=aD
    have aM:F1 _ aB aC [V6 ay.Id,V3 aF aG aH,V3 aI aJ aK]:=aE
    refine fa a1x u (lv (y9 a7g u l (aM 1 _ u)) (lv (q9 underlying41 u aL) (lv (u7 u u) (nq (D5 aA u (fun aN W=>?_) (fun aN W=>?_))))))
    ·refine j3 (qs (j7 (j5 (mv u (mv u (mv u ?_))))))
     obtain⟨aO,aP,aQ⟩:=ob W
     refine li underlying27 E8 (S.mono ((U.trans x).trans R)) aP fun aR aS bN aT aU=>?_
     obtain⟨aV,aW,aX,aY,aZ,ba,rfl,bO,bb,bP⟩:=aT
     have bc:F1 _ aR aS [V6 aO.Id,V3 aV aW aX,V3 aY aZ ba]:=aU
     refine fa a1x u (lv (y9 a7g u l (bc 1 _ u)) (mv u ?_))
     obtain⟨ab,bd,be⟩:=ob aQ
     refine li underlying41 U6 bb bd fun bf bg bQ bh bi=>?_
     obtain⟨rfl,bj,bR⟩:=bh
     have bk:F1 _ bf bg [sv ab.Name,sv ab.Text]:=bi
     refine fa a5a u (lv (y9 G7 u l (bk 0 _ u)) ?_)
     obtain⟨bS,bl,bm⟩:=ob be
     refine lk c30 (a9F F l.e1 aa bj bl) ?_
     rintro bT bU ⟨bn,bo,bp,bq,rfl,ac,br⟩
     have bs:=(l.c1 ac).t1
     refine av u (nb (l5 (j5 (mv u (lv (y7 u u) (av u (i8 ?_)))))))
     cases oi bm
     exact qd ⟨_,u,bn,bo,bp,bq,u,bs,(R.trans ac.le),br,(u0 _)⟩
    refine y4 (g8 (g8 ?_))
    cases oi W
    cases ax _ u
    refine l6 ?_
    cases oi au
    exact qd ⟨G,H,I,J,u,l,R,aa⟩
   rintro _ bV ⟨y,B,C,D,rfl,bu,bv,bx⟩
   refine x8 (l5 (j5 (mv u (lv (y7 u u) (av u (i8 ?_))))))
   cases oi aq
   exact qd ⟨_,u,y,B,C,D,u,bu,(x.trans bv),bx,(u0 _)⟩
  refine y4 (g8 (g8 ?_))
  cases oi V
  cases am _ u
  refine l6 ?_
  cases oi ak
  exact qd ⟨f,i,k,c,u,X,x,Y⟩
 rintro _ bW ⟨m,o,q,s,rfl,bz,bX,bA⟩
 refine qr (mv u (av u (nq (j9 ?_))))
 cases oi ai
 exact ey results160 ⟨m,o,q,s,u,bz,bA⟩

theorem a7N {q0:A1}{q1:r4}{r:r4}(hS:SH w K [] w K [])(an:i7 q0.Id)(l:b7 K5 K A a b q0.Fields)(ao:b7 N0 K B c d q0.Nums)(ap:q1.length≤maxLen)(hm:a1s F q0 q1=some r):
  Calls prog 199 #[.agg #[V6 q0.Id,V3 A a b,V3 B c d],sv q1] w fun e w'=>∃K',e= .returned (sv r)∧SH w K [] w' K' []∧r.length≤maxLen:=by
 rw [a1s] at hm
 refine ci func199 u ntmps199 (sr (bx u hS fun m aq H=>?_))
 have I:SH _ _ _ _ _ [s7 m [V6 q0.Id,V3 A a b,V3 B c d] 44]:=H
 refine lv (r_s u) (O7 (lv (N2 u) (nq ?_)))
 obtain⟨J,O,k⟩:=ob hm
 refine l4 (IE J w K [] K [] []) ?_ ?_
 ·refine j7 ?_
  obtain⟨ar,R,y⟩:=ob O
  refine qw (fun (o:Int)=>IW w K [] K [(1,sv q1),(2,pt m),(5,V6 o)] [s7 m [V6 q0.Id,V3 A a b,V3 B c d] 44] (i7 o)) R ⟨K,u,I,kr,I5⟩ ?_
  rintro o _ au aw S C ⟨q,rfl,f,i,ax⟩
  refine o4 (sr (mv u (fl a1x u a7g m0 f u (lv (q9 underlying41 u (l.mono i)) (lv (u7 u u) (nq (D5 S u (fun T s=>?_) (fun T s=>?_))))))))
  ·refine j3 (qs (j7 (sr (fl a1x u a7g m0 f u (mv u ?_)))))
   obtain⟨D,U,V⟩:=ob s
   refine li underlying41 U6 (l.mono i) U fun W X ay Y aa=>?_
   obtain⟨rfl,az,aA⟩:=Y
   have ab:F1 _ W X [sv D.Name,sv D.Text]:=aa
   refine fa a5a u (lv (y9 G7 u f (ab 0 _ u)) (mv u (lv (J8 u u) (nq (D5 V u (fun ac x=>?_) (fun ac x=>?_))))))
   ·refine sr (fl a1x u a7g m0 f u (mv u ?_))
    obtain⟨G,ad,ae⟩:=ob x
    refine li underlying41 U6 (l.mono i) ad fun af ag aB ah ai=>?_
    obtain⟨rfl,aC,aj⟩:=ah
    have ak:F1 _ af ag [sv G.Name,sv G.Text]:=ai
    refine fa b0n u (lv (y9 G7 u f (ak 1 _ u)) (av u (nq (j9 (i9 (c9 (c9 ?_)))))))
    cases oi ae
    cases C _ u
    refine i9 (c9 ?_)
    cases oi y
    refine c9 ?_
    cases oi k
    exact ey results199 ⟨q,u,f.s,aj⟩
   refine j3 (x8 (l5 (j5 (mv u (lv (y7 u u) (av u (i8 ?_)))))))
   cases oi x
   exact qd ⟨_,u,q,u,f,i,(u0 _)⟩
  refine y4 (g8 (g8 ?_))
  cases oi s
  cases C _ u
  refine l6 ?_
  cases oi y
  exact L6 ⟨_,q,u,u,f.s,i⟩ trivial
 rintro _ aD ⟨aE,al,rfl,rfl,am,aF⟩
 have k:=E9 k
 refine qr (lv (r_s u) (nq (j9 ?_)))
 cases oi k
 exact ey results199 ⟨al,u,am,(by decide :([]:r4).length≤maxLen)⟩

theorem b1w {q0:A1}{r:A1}(hS:SH w K [] w K [])(G:i7 q0.Id)(H:b7 K5 K A a b q0.Fields)(I:b7 N0 K B c d q0.Nums)(hm:a13 F q0=some r):
  Calls prog 151 #[.agg #[V6 q0.Id,V3 A a b,V3 B c d]] w fun e w'=>∃a_2 n_3 c_4 a_6 n_7 c_8 K',e= .returned (.agg #[V6 r.Id,V3 a_2 n_3 c_4,V3 a_6 n_7 c_8])∧SH w K [] w' K' [tail (V3 a_2 n_3 c_4) 148 2,tail (V3 a_6 n_7 c_8) 137 2]∧i7 r.Id∧b7 K5 K' a_2 n_3 c_4 r.Fields∧b7 N0 K' a_6 n_7 c_8 r.Nums:=by
 rw [a13] at hm
 refine ci func151 u ntmps151 (sr (bx u hS fun aC aX aE=>?_))
 have aF:SH _ _ _ _ _ [s7 aC [V6 q0.Id,V3 A a b,V3 B c d] 44]:=aE
 refine al E8 aF fun aG aY aH=>?_
 have aI:SH _ _ _ _ _ [s7 aG [V6 0,V3 none 0 0,V3 none 0 0] 44,_]:=aH
 refine ns ?_
 obtain⟨aZ,J,aJ⟩:=ob hm
 obtain⟨ba,O,R⟩:=ob aJ
 have v:=aI.drew
 refine j_0 (fun w'=>H0 K w'∧B0 aC [V6 q0.Id,V3 A a b,V3 B c d] w') 12 [] mixed ⟨v.hasK kr,v.hasObj m1⟩ (jv 0 u (c7 P6 u) (jh 1 u (fun _ h=>B5 E6 u u h.2) (jv 3 u (c7 a1x u) (jh 4 u (fun _ h=>B5 a7g u u h.2) (jv 7 u (c7 a1S u) (jh 8 u (fun _ h=>B5 a7y u u h.2) (j2 2 6 u u ?_ ?_)))))))
 ·refine b0 K5 underlying41 U6 v fun bb bc bd f aD x=>(P0 ⟨x.hasK f,x.hasObj m2⟩ (j2 5 6 u u ?_ ?_))
  ·refine lp underlying41 U6 aD (H.mono f) J x fun S T U be bf m aK V=>(P0 ⟨V.hasK (f.trans m),V.hasObj m2⟩ (j1 6 u (b0 N0 underlying42 Y9 V fun bg bh bi o aL W=>(P0 ⟨W.hasK ((f.trans m).trans o),W.hasObj m3⟩ (j1 9 u (lp underlying42 Y9 aL (I.mono ((f.trans m).trans o)) O W fun X Y aa bj aM ab aN ac=>(P0 ⟨ac.hasK (((f.trans m).trans o).trans ab),ac.hasObj m3⟩ (jv 10 u (C3 (cs:=#[V6 q0.Id,V3 S T U,V3 X Y aa]) b4M E8 u (by kernel_rfl)) (j1 11 u ?_)))))))))
   refine lw [V6 q0.Id,V3 S T U,V3 X Y aa] E8 ac.f2 fun bk y=>(P0 ⟨y.hasK (((f.trans m).trans o).trans ab),y.hasObj m3⟩ (jd (l5 (j9 ?_))))
   cases oi R
   exact ez results151 E8 y m0 ⟨S,T,U,X,Y,aa,aM,u,y.f1.f2.s,G,(aK.mono (o.trans ab)),aN⟩
  refine b0 N0 underlying42 Y9 x fun bl bm bn i aO ad=>(P0 ⟨ad.hasK (f.trans i),ad.hasObj m3⟩ (j1 5 u (lp underlying41 U6 (aD.mono i) (H.mono (f.trans i)) J ad.f1 fun ae af ag bo bp q aP ah=>(P0 ⟨ah.hasK ((f.trans i).trans q),ah.hasObj m3⟩ (j1 9 u (lp underlying42 Y9 (aO.mono q) (I.mono ((f.trans i).trans q)) O ah.f1 fun ai aj ak bq aQ am aR an=>(P0 ⟨an.hasK (((f.trans i).trans q).trans am),an.hasObj m3⟩ (jv 10 u (C3 (cs:=#[V6 q0.Id,V3 ae af ag,V3 ai aj ak]) b4M E8 u (by kernel_rfl)) (j1 11 u ?_)))))))))
  refine lw [V6 q0.Id,V3 ae af ag,V3 ai aj ak] E8 an.f2 fun br C=>(P0 ⟨C.hasK (((f.trans i).trans q).trans am),C.hasObj m3⟩ (jd (l5 (j9 ?_))))
  cases oi R
  exact ez results151 E8 C m0 ⟨ae,af,ag,ai,aj,ak,aQ,u,C.f1.f2.s,G,(aP.mono am),aR⟩
 refine b0 N0 underlying42 Y9 v fun bs bu bv k aS ao=>(P0 ⟨ao.hasK k,ao.hasObj m2⟩ (j1 2 u (b0 K5 underlying41 U6 ao fun bz bA bB l aT ap=>(P0 ⟨ap.hasK (k.trans l),ap.hasObj m3⟩ (j1 5 u (lp underlying41 U6 aT (H.mono (k.trans l)) J ap fun aq ar au bC bD s aU aw=>(P0 ⟨aw.hasK ((k.trans l).trans s),aw.hasObj m3⟩ (j1 9 u (lp underlying42 Y9 (aS.mono (l.trans s)) (I.mono ((k.trans l).trans s)) O aw.f1 fun ax ay az bE aV aA aW aB=>?_)))))))))
 refine P0 ⟨aB.hasK (((k.trans l).trans s).trans aA),aB.hasObj m3⟩ (jv 10 u (C3 (cs:=#[V6 q0.Id,V3 aq ar au,V3 ax ay az]) b4M E8 u (by kernel_rfl)) (j1 11 u (lw [V6 q0.Id,V3 aq ar au,V3 ax ay az] E8 aB.f2 fun bF D=>(P0 ⟨D.hasK (((k.trans l).trans s).trans aA),D.hasObj m3⟩ (jd (l5 (j9 ?_)))))))
 cases oi R
 exact ez results151 E8 D m0 ⟨aq,ar,au,ax,ay,az,aV,u,D.f1.f2.s,G,(aU.mono aA),aW⟩

theorem b0G {q0:List A1}{r:(List A1)}(hS:SH w K [] w K [])(x:b7 F6 K A a b q0)(hm:a1j F q0=some r):
  Calls prog 110 #[V3 A a b] w fun e w'=>∃a_1 n_2 c_3 K',e= .returned (V3 a_1 n_2 c_3)∧SH w K [] w' K' [tail (V3 a_1 n_2 c_3) 44 3]∧b7 F6 K' a_1 n_2 c_3 r:=by
 rw [a1j] at hm
 refine ci func110 u ntmps110 (sr (lv (r_n u) (nr (b0 F6 underlying27 E8 hS fun a5 w6 y B ag ah=>(av u (O7 (mv u (lv (q9 underlying27 u (x.mono B)) (lv (r_m u) ?_)))))))))
 refine nq ?_
 obtain⟨ai,aj,ak⟩:=ob hm
 refine l4 (fun E' w'=>∃k l m o,E'=[(3,V3 k l m)]∧SH w K [] w' o [tail (V3 k l m) 44 3]∧M0 y o∧b7 F6 o k l m ai) ?_ ?_
 ·refine j7 ?_
  obtain⟨bb,am,an⟩:=ob aj
  refine qF (fun (ad:Nat) (C:(List A1)) E' w'=>∃c d f i,E'=[(3,V3 c d f),(7,V3 A a b),(8,V6 (q0.length:Int)),(9,V6 ((ad:Nat):Int))]∧SH w K [] w' i [tail (V3 c d f) 44 3]∧M0 y i∧b7 F6 i c d f C) am ⟨a5,0,0,y,u,ah,kr,ag⟩ ?_ ?_
  ·rintro ad C _ ao bc hi37 ap ⟨c,d,f,i,rfl,q,s,D⟩
   refine sr (lv (u7 u u) (ns (C9 u (b8 (by omega)) (j3 (l5 (o4 (j7 (sr ?_))))))))
   obtain⟨G,aq,ar⟩:=ob ap
   refine li underlying27 E8 (x.mono (B.trans s)) aq fun au aw bd ax ay=>?_
   obtain⟨H,I,J,O,R,S,rfl,az,aA,aB⟩:=ax
   have aC:F1 _ au aw [V6 G.Id,V3 H I J,V3 O R S]:=ay
   refine lv (F3 E8 u q aC u) (al E8 q fun aD be aE=>?_)
   have aF:SH _ _ _ _ _ [s7 aD [V6 0,V3 none 0 0,V3 none 0 0] 44,_]:=aE
   refine lw [V6 G.Id,V3 H I J,V3 O R S] E8 aF fun bf T=>(nq (j5 (mv u (lv (j6 (ds:=[V6 G.Id,V3 H I J,V3 O R S]) E8 u m0 T u u) ?_))))
   obtain⟨U,aG,aH⟩:=ob ar
   refine lk c5S (b1w F T.enter0 az aA aB aG) ?_
   rintro bg bh ⟨V,W,X,Y,aa,ab,bi,rfl,ac,aI,aJ,aK⟩
   have aL:=(T.c0 ac).t4
   refine lb F6 (.agg #[V6 U.Id,V3 V W X,V3 Y aa ab]) [V6 U.Id,V3 V W X,V3 Y aa ab] U underlying27 E8 ⟨V,W,X,Y,aa,ab,u,aI,aJ,aK⟩ aL fun bj bk bl ae aM aN=>?_
   obtain⟨bm,aO,aP⟩:=ob aH
   refine lp underlying27 E8 (D.mono (ac.le.trans ae)) aM aO aN.f4 fun aQ aR aS bn aT aU aV aW=>(av u (nb (qg (lv (B6 u u (C6 hi37 (b7.max (x.mono B)))) (mv u (i8 ?_))))))
   cases oi aP
   exact qd ⟨aQ,aR,aS,aT,u,aW.s,(((s.trans ac.le).trans ae).trans aU),aV⟩
  rintro C _ ao aX ⟨c,d,f,i,rfl,q,s,D⟩
  subst aX
  refine sr (lv (u7 u u) (ns (C8 u (c6 (by omega)) (y4 (g8 (g8 (l6 ?_)))))))
  cases oi an
  exact qd ⟨c,d,f,i,u,q,s,D⟩
 rintro _ bo ⟨k,l,m,o,rfl,aY,bp,aZ⟩
 refine qr (mv u (av u (nq (j9 ?_))))
 cases oi ak
 exact ey results110 ⟨k,l,m,o,u,aY,aZ⟩

theorem a9o {q0:List Int}{q1:List Int}{r:Bool}(hS:SH w K [] w K [])(i:b7 D6 K A a b q0)(s:b7 D6 K B c d q1)(hm:a0l F q0 q1=some r):
  Calls prog 157 #[V3 A a b,V3 B c d] w (R_b w K r):=by
 rw [a0l] at hm
 refine ci func157 u ntmps157 (sr (lv (O6 u) (O7 (mv u (lv (q9 underlying46 u i) (mv u (lv (q9 underlying46 u s) (lv (R2 u u) (nq ?_)))))))))
 refine R9 u (fun l=>?_) (fun l=>?_)
 ·have m:=a1a l hm
  refine sr (lv (O6 u) (nq (rr ?_)))
  cases oi m
  exact ey results157 ⟨K,u,hS⟩
 have m:=a09 l hm
 refine j3 (qs (sr (mv u (lv (q9 underlying46 u i) (lv (r_m u) (nq ?_))))))
 obtain⟨I,J,k⟩:=ob m
 refine l4 (IE I w K [] K [] []) ?_ ?_
 ·refine j7 ?_
  obtain⟨aq,O,x⟩:=ob J
  refine qf (fun (y:Nat) (C:Unit)=>IV w K [] K [(0,V3 A a b),(1,V3 B c d),(12,V6 (q0.length:Int)),(13,V6 ((y:Nat):Int))] []) O ⟨K,u,hS,kr⟩ ?_ ?_
  ·rintro y C _ R ar hi29 S T ⟨D,rfl,o,f⟩
   refine sr (lv (u7 u u) (ns (C9 u (b8 (by omega)) (j3 (l5 (o4 (j7 (sr (mv u (av u (ns (D4 mixed (by kernel_rfl) o ?_))))))))))))
   refine km u (km u ?_)
   obtain⟨U,V,W⟩:=ob S
   refine ki underlying46 E6 (i.mono f) V fun X Y au aa ab=>?_
   obtain⟨rfl,aw⟩:=aa
   have ac:F1 _ X Y [V6 U]:=ab
   refine kh (C1 E6 u (ac 0 _ u)) (km u (km u ?_))
   obtain⟨ad,ae,af⟩:=ob W
   refine ki underlying46 E6 (s.mono f) ae fun ag ah ax ai aj=>?_
   obtain⟨rfl,ay⟩:=ai
   have ak:F1 _ ag ah [V6 ad]:=aj
   refine kh (C1 E6 u (ak 0 _ u)) (kv (R2 u u) (B4 ?_))
   rintro az ⟨G,H,al⟩
   refine l5 (D5 af u (fun am q=>?_) (fun am q=>?_))
   ·refine sr (lv (O6 u) (nq (j9 (i9 (c9 (c9 ?_))))))
    cases oi q
    cases T _ u
    refine i9 (c9 ?_)
    cases oi x
    refine c9 ?_
    cases oi k
    exact ey results157 ⟨G,u,H⟩
   refine j3 (x8 (qg (lv (B6 u u (C6 hi29 (b7.max i))) (mv u (i8 ?_)))))
   cases oi q
   exact qd ⟨_,u,G,u,H,(f.trans al)⟩
  rintro C _ R an ⟨D,rfl,o,f⟩
  subst an
  refine sr (lv (u7 u u) (ns (C8 u (c6 (by omega)) (y4 (g8 (g8 (l6 ?_)))))))
  cases oi x
  exact L6 ⟨_,D,u,u,o,f⟩ trivial
 rintro _ aA ⟨aB,ao,rfl,rfl,ap,aC⟩
 have k:=E9 k
 refine qr (lv (r_t u) (nq (j9 ?_)))
 cases oi k
 exact ey results157 ⟨ao,u,ap⟩

theorem b1z {q0:F7}{q1:F7}{r:Bool}(hS:SH w K [] w K [])(J:i7 q0.Doc)(l:b7 D6 K A a b q0.At)(O:i7 q1.Doc)(m:b7 D6 K B c d q1.At)(hm:a15 F q0 q1=some r):
  Calls prog 117 #[.agg #[V6 q0.Doc,V3 A a b],.agg #[V6 q1.Doc,V3 B c d]] w (R_b w K r):=by
 rw [a15] at hm
 refine ci func117 u ntmps117 (sr (bx u hS fun o R q=>?_))
 have s:SH _ _ _ _ _ [s7 o [V6 q0.Doc,V3 A a b] 48]:=q
 refine bx u s fun x S y=>?_
 have i:SH _ _ _ _ _ [s7 x [V6 q1.Doc,V3 B c d] 48,_]:=y
 refine lv (O6 u) (nr (fl a5U u E6 m1 i u (fl a5U u E6 m0 i u (lv (A9 u u) (mv u (bt hm (fun f k=>?_) (fun f k=>?_)))))))
 ·refine lg f (c7 a4M u) (lg f (w8 a1g u m1 i u) (lg f (c7 a4M u) (lg f (w8 a1g u m0 i u) ?_)))
  obtain⟨T,C,D⟩:=ob k
  refine A3 (wg u u f) u (A2 (vs:=[V3 A a b,V3 B c d]) c5V u) (a9o F i.enter0 l m C) ?_
  rintro U V ⟨G,rfl,H⟩
  refine⟨_,u,?_⟩
  have I:=(i.c0 H).t2
  refine lv (n9 u f u) (av u (nq (j9 ?_)))
  cases oi D
  exact ey results117 ⟨G,u,I.s⟩
 iterate 5 refine lu f ?_
 refine lv (L8 u f u) (av u (nq (j9 ?_)))
 cases oi k
 exact ey results117 ⟨K,u,i.s⟩

theorem a2F {q0:List F7}{q1:List F7}{r:Bool}(hS:SH w K [] w K [])(i:b7 S2 K A a b q0)(O:b7 S2 K B c d q1)(hm:H3 F q0 q1=some r):
  Calls prog 116 #[V3 A a b,V3 B c d,.func (.func 117) #[] #[]] w (R_b w K r):=by
 rw [H3] at hm
 refine ci func116 u ntmps116 (sr (lv (O6 u) (O7 (mv u (lv (q9 underlying37 u i) (mv u (lv (q9 underlying37 u O) (lv (R2 u u) (nq ?_)))))))))
 refine R9 u (fun H=>?_) (fun H=>?_)
 ·have I:=a1a H hm
  refine sr (lv (O6 u) (nq (rr ?_)))
  cases oi I
  exact ey results116 ⟨K,u,hS⟩
 have I:=a09 H hm
 refine j3 (qs (sr (mv u (lv (q9 underlying37 u i) (lv (r_m u) (nq ?_))))))
 obtain⟨aa,ab,k⟩:=ob I
 refine l4 (IE aa w K [] K [] []) ?_ ?_
 ·refine j7 ?_
  obtain⟨aO,ac,R⟩:=ob ab
  refine qf (fun (S:Nat) (T:Unit)=>IV w K [] K [(1,V3 B c d),(2,.func (.func 117) #[] #[]),(15,V3 A a b),(16,V6 (q0.length:Int)),(17,V6 ((S:Nat):Int))] []) ac ⟨K,u,hS,kr⟩ ?_ ?_
  ·rintro S T _ ad aP hi29 ae af ⟨U,rfl,l,f⟩
   refine sr (lv (u7 u u) (ns (C9 u (b8 (by omega)) (j3 (l5 (o4 (j7 (sr (mv u ?_)))))))))
   obtain⟨m,ag,ah⟩:=ob ae
   refine li underlying37 a02 (i.mono f) ag fun ai aj aQ ak am=>?_
   obtain⟨o,q,s,rfl,an,ao⟩:=ak
   have ap:F1 _ ai aj [V6 m.Doc,V3 o q s]:=am
   refine lv (F3 a02 u l ap u) (al a02 l fun aq aR ar=>?_)
   have au:SH _ _ _ _ _ [s7 aq [V6 0,V3 none 0 0] 48]:=ar
   refine av u (lw [V6 m.Doc,V3 o q s] a02 au fun aS V=>(nr (mv u (mv u ?_))))
   obtain⟨x,aw,ax⟩:=ob ah
   refine li underlying37 a02 (O.mono f) aw fun ay az aT aA aB=>?_
   obtain⟨y,C,D,rfl,aC,aD⟩:=aA
   have aE:F1 _ ay az [V6 x.Doc,V3 y C D]:=aB
   refine lv (F3 a02 u V aE u) (al a02 V fun aF aU aG=>?_)
   have aH:SH _ _ _ _ _ [s7 aF [V6 0,V3 none 0 0] 48,_]:=aG
   refine lw [V6 x.Doc,V3 y C D] a02 aH fun aV G=>(nr (mv u (lv (j6 (ds:=[V6 m.Doc,V3 o q s]) a02 u m1 G u u) (lv (j6 (ds:=[V6 x.Doc,V3 y C D]) a02 u m0 G u u) ?_))))
   obtain⟨aW,aI,aJ⟩:=ob ax
   refine A3 wn u (b0W (vs:=[.agg #[V6 m.Doc,V3 o q s],.agg #[V6 x.Doc,V3 y C D]]) (cap:=#[]) c5z u u) (b1z F G.enter0 an ao aC aD aI) ?_
   rintro aX aY ⟨W,rfl,X⟩
   refine⟨_,u,?_⟩
   have Y:=(G.c0 X).t2
   refine lv (A4 u) (nq (D5 aJ u (fun aK J=>?_) (fun aK J=>?_)))
   ·refine sr (lv (O6 u) (nq (j9 (i9 (c9 (c9 ?_))))))
    cases oi J
    cases af _ u
    refine i9 (c9 ?_)
    cases oi R
    refine c9 ?_
    cases oi k
    exact ey results116 ⟨W,u,Y.s⟩
   refine j3 (x8 (qg (lv (B6 u u (C6 hi29 (b7.max i))) (mv u (i8 ?_)))))
   cases oi J
   exact qd ⟨_,u,W,u,Y.s,(f.trans X.le)⟩
  rintro T _ ad aL ⟨U,rfl,l,f⟩
  subst aL
  refine sr (lv (u7 u u) (ns (C8 u (c6 (by omega)) (y4 (g8 (g8 (l6 ?_)))))))
  cases oi R
  exact L6 ⟨_,U,u,u,l,f⟩ trivial
 rintro _ aZ ⟨ba,aM,rfl,rfl,aN,bb⟩
 have k:=E9 k
 refine qr (lv (r_t u) (nq (j9 ?_)))
 cases oi k
 exact ey results116 ⟨aM,u,aN⟩

theorem b0I {q0:C0}{q1:C0}{r:Bool}(hS:SH w K [] w K [])(R:q0.Field.length≤maxLen)(S:q0.Term.length≤maxLen)(o:b7 S2 K A a b q0.Posts)(T:q1.Field.length≤maxLen)(U:q1.Term.length≤maxLen)(q:b7 S2 K B c d q1.Posts)(hm:a1m F q0 q1=some r):
  Calls prog 63 #[.agg #[sv q0.Field,sv q0.Term,V3 A a b],.agg #[sv q1.Field,sv q1.Term,V3 B c d]] w (R_b w K r):=by
 rw [a1m] at hm
 refine ci func63 u ntmps63 (sr (bx u hS fun s V x=>?_))
 have y:SH _ _ _ _ _ [s7 s [sv q0.Field,sv q0.Term,V3 A a b] 99]:=x
 refine bx u y fun C W D=>?_
 have f:SH _ _ _ _ _ [s7 C [sv q1.Field,sv q1.Term,V3 B c d] 99,_]:=D
 refine lv (O6 u) (nr (fl a3z u G7 m1 f u (fl a3z u G7 m0 f u (lv (J8 u u) (mv u (bt hm (fun i l=>?_) (fun i l=>?_)))))))
 ·refine lg i (c7 a21 u) (lg i (w8 G7 u m1 f u) (lg i (c7 a21 u) (lg i (w8 G7 u m0 f u) (lg i (J8 u u) (lv (n9 u i u) (mv u (bt l (fun k m=>?_) (fun k m=>?_))))))))
  ·refine lg k (c7 Y0 u) (lg k (w8 a5B u m1 f u) (lg k (c7 Y0 u) (lg k (w8 a5B u m0 f u) ?_)))
   obtain⟨X,G,H⟩:=ob m
   refine A3 (wg u u k) u (A2 (vs:=[V3 A a b,V3 B c d,.func (.func 117) #[] #[]]) c5y u) (a2F F f.enter0 o q G) ?_
   rintro Y aa ⟨I,rfl,J⟩
   refine⟨_,u,?_⟩
   have O:=(f.c0 J).t2
   refine lv (n9 u k u) (av u (nq (j9 ?_)))
   cases oi H
   exact ey results63 ⟨I,u,O.s⟩
  iterate 5 refine lu k ?_
  refine lv (L8 u k u) (av u (nq (j9 ?_)))
  cases oi m
  exact ey results63 ⟨K,u,f.s⟩
 iterate 5 refine lu i ?_
 refine lv (L8 u i u) (mv u ?_)
 iterate 5 refine lu u ?_
 refine lv (L8 u u u) (av u (nq (j9 ?_)))
 cases oi l
 exact ey results63 ⟨K,u,f.s⟩

theorem a2g {q0:List C0}{q1:List C0}{r:Bool}(hS:SH w K [] w K [])(l:b7 B8 K A a b q0)(O:b7 B8 K B c d q1)(hm:G4 F q0 q1=some r):
  Calls prog 61 #[V3 A a b,V3 B c d,.func (.func 63) #[] #[]] w (R_b w K r):=by
 rw [G4] at hm
 refine ci func61 u ntmps61 (sr (lv (O6 u) (O7 (mv u (lv (q9 underlying28 u l) (mv u (lv (q9 underlying28 u O) (lv (R2 u u) (nq ?_)))))))))
 refine R9 u (fun H=>?_) (fun H=>?_)
 ·have I:=a1a H hm
  refine sr (lv (O6 u) (nq (rr ?_)))
  cases oi I
  exact ey results61 ⟨K,u,hS⟩
 have I:=a09 H hm
 refine j3 (qs (sr (mv u (lv (q9 underlying28 u l) (lv (r_m u) (nq ?_))))))
 obtain⟨aa,ab,m⟩:=ob I
 refine l4 (IE aa w K [] K [] []) ?_ ?_
 ·refine j7 ?_
  obtain⟨aQ,ac,R⟩:=ob ab
  refine qf (fun (S:Nat) (T:Unit)=>IV w K [] K [(1,V3 B c d),(2,.func (.func 63) #[] #[]),(15,V3 A a b),(16,V6 (q0.length:Int)),(17,V6 ((S:Nat):Int))] []) ac ⟨K,u,hS,kr⟩ ?_ ?_
  ·rintro S T _ ad aR hi29 ae af ⟨U,rfl,o,k⟩
   refine sr (lv (u7 u u) (ns (C9 u (b8 (by omega)) (j3 (l5 (o4 (j7 (sr (mv u ?_)))))))))
   obtain⟨f,ag,ah⟩:=ob ae
   refine li underlying28 P2 (l.mono k) ag fun ai aj aS ak am=>?_
   obtain⟨q,s,x,rfl,an,ao,ap⟩:=ak
   have aq:F1 _ ai aj [sv f.Field,sv f.Term,V3 q s x]:=am
   refine lv (F3 P2 u o aq u) (al P2 o fun ar aT au=>?_)
   have aw:SH _ _ _ _ _ [s7 ar [sv [],sv [],V3 none 0 0] 99]:=au
   refine av u (lw [sv f.Field,sv f.Term,V3 q s x] P2 aw fun aU V=>(nr (mv u (mv u ?_))))
   obtain⟨i,ax,ay⟩:=ob ah
   refine li underlying28 P2 (O.mono k) ax fun az aA aV aB aC=>?_
   obtain⟨y,C,D,rfl,aD,aE,aF⟩:=aB
   have aG:F1 _ az aA [sv i.Field,sv i.Term,V3 y C D]:=aC
   refine lv (F3 P2 u V aG u) (al P2 V fun aH aW aI=>?_)
   have aJ:SH _ _ _ _ _ [s7 aH [sv [],sv [],V3 none 0 0] 99,_]:=aI
   refine lw [sv i.Field,sv i.Term,V3 y C D] P2 aJ fun aX G=>(nr (mv u (lv (j6 (ds:=[sv f.Field,sv f.Term,V3 q s x]) P2 u m1 G u u) (lv (j6 (ds:=[sv i.Field,sv i.Term,V3 y C D]) P2 u m0 G u u) ?_))))
   obtain⟨aY,aK,aL⟩:=ob ay
   refine A3 wn u (b0W (vs:=[.agg #[sv f.Field,sv f.Term,V3 q s x],.agg #[sv i.Field,sv i.Term,V3 y C D]]) (cap:=#[]) c65 u u) (b0I F G.enter0 an ao ap aD aE aF aK) ?_
   rintro aZ ba ⟨W,rfl,X⟩
   refine⟨_,u,?_⟩
   have Y:=(G.c0 X).t2
   refine lv (A4 u) (nq (D5 aL u (fun aM J=>?_) (fun aM J=>?_)))
   ·refine sr (lv (O6 u) (nq (j9 (i9 (c9 (c9 ?_))))))
    cases oi J
    cases af _ u
    refine i9 (c9 ?_)
    cases oi R
    refine c9 ?_
    cases oi m
    exact ey results61 ⟨W,u,Y.s⟩
   refine j3 (x8 (qg (lv (B6 u u (C6 hi29 (b7.max l))) (mv u (i8 ?_)))))
   cases oi J
   exact qd ⟨_,u,W,u,Y.s,(k.trans X.le)⟩
  rintro T _ ad aN ⟨U,rfl,o,k⟩
  subst aN
  refine sr (lv (u7 u u) (ns (C8 u (c6 (by omega)) (y4 (g8 (g8 (l6 ?_)))))))
  cases oi R
  exact L6 ⟨_,U,u,u,o,k⟩ trivial
 rintro _ bb ⟨bc,aO,rfl,rfl,aP,bd⟩
 have m:=E9 m
 refine qr (lv (r_t u) (nq (j9 ?_)))
 cases oi m
 exact ey results61 ⟨aO,u,aP⟩

theorem a5J {q0:T0}{q1:Int}{r:A1×Bool}(hS:SH w K Z w K [s7 g1 [V3 A a b,V3 B c d,V3 C f i,V3 D k l] 113])(aU:b7 D9 K A a b q0.c_.Stops)(aV:b7 L0 K B c d q0.c_.Syns)(ad:b7 F6 K C f i q0.s_.Docs)(aW:b7 B8 K D k l q0.s_.Entries)(aX:i7 q1)(hm:T1 F q0 q1=some r):
  Calls prog 69 #[.pointer (some ⟨g1,2,none⟩),V6 q1] w fun e w'=>∃a_2 n_3 c_4 a_6 n_7 c_8 K',e= .returned (.tuple #[.agg #[V6 r.1.Id,V3 a_2 n_3 c_4,V3 a_6 n_7 c_8],.bool r.2])∧SH w K Z w' K' [s7 g1 [V3 A a b,V3 B c d,V3 C f i,V3 D k l] 113]∧i7 r.1.Id∧b7 K5 K' a_2 n_3 c_4 r.1.Fields∧b7 N0 K' a_6 n_7 c_8 r.1.Nums:=by
 rw [T1] at hm
 refine ci func69 u ntmps69 (sr (al E8 hS fun W aY ax=>?_))
 have ap:SH _ _ _ _ _ [s7 W [V6 0,V3 none 0 0,V3 none 0 0] 44,_]:=ax
 refine lv (O6 u) (O7 (mv u (lv (B7 u) (fl L3 u a1b m1 ap u (lv (q9 underlying27 u ad) (lv (r_m u) (nq ?_)))))))
 obtain⟨ay,az,Y⟩:=ob hm
 refine l4 (fun E' w'=>∃o ae af ag ah ai aj q,ay= .inl o∧E'=[(0,.pointer (some ⟨g1,2,none⟩)),(4,pt W)]∧SH w K Z w' q [s7 g1 [V3 A a b,V3 B c d,V3 C f i,V3 D k l] 113,s7 W [V6 o.Id,V3 ae af ag,V3 ah ai aj] 44]∧M0 K q∧i7 o.Id∧b7 K5 q ae af ag o.Fields∧b7 N0 q ah ai aj o.Nums) ?_ ?_
 ·refine j7 ?_
  obtain⟨aZ,aA,aq⟩:=ob az
  refine qf (fun (ar:Nat) (s:A1) E' w'=>∃x y G H I J m,E'=[(0,.pointer (some ⟨g1,2,none⟩)),(1,V6 q1),(4,pt W),(11,V3 C f i),(12,V6 (q0.s_.Docs.length:Int)),(13,V6 ((ar:Nat):Int))]∧SH w K Z w' m [s7 g1 [V3 A a b,V3 B c d,V3 C f i,V3 D k l] 113,s7 W [V6 s.Id,V3 x y G,V3 H I J] 44]∧M0 K m∧i7 s.Id∧b7 K5 m x y G s.Fields∧b7 N0 m H I J s.Nums) aA ⟨none,0,0,none,0,0,K,u,ap.f1,kr,I5,(b7.nil _ _),(b7.nil _ _)⟩ ?_ ?_
  ·rintro ar s _ aB ba hi60 aC aD ⟨x,y,G,H,I,J,m,rfl,aa,ab,ak,am,an⟩
   refine sr (lv (u7 u u) (ns (C9 u (b8 (by omega)) (j3 (l5 (o4 (j7 (sr ?_))))))))
   obtain⟨X,aE,aF⟩:=ob aC
   refine li underlying27 E8 (ad.mono ab) aE fun aG aH bb aI aJ=>?_
   obtain⟨O,R,S,T,U,V,rfl,aK,aL,aM⟩:=aI
   have aN:F1 _ aG aH [V6 X.Id,V3 O R S,V3 T U V]:=aJ
   refine lv (F3 E8 u aa aN u) (al E8 aa fun aO bc aP=>?_)
   have aQ:SH _ _ _ _ _ [s7 aO [V6 0,V3 none 0 0,V3 none 0 0] 44,_,_]:=aP
   refine lw [V6 X.Id,V3 O R S,V3 T U V] E8 aQ fun bd ac=>(nr (fl P6 u E6 m0 ac u (mv u (lv (A9 u u) (nq (D5 aF u (fun aR ao=>?_) (fun aR ao=>?_)))))))
   ·refine sr (lv (j6 (ds:=[V6 X.Id,V3 O R S,V3 T U V]) E8 u m0 ac u u) (lw [V6 X.Id,V3 O R S,V3 T U V] E8 ac.f2 fun be au=>(lv (r_t u) (nq (j9 (i9 (c9 (c9 ?_))))))))
    cases oi ao
    cases aD _ u
    refine i9 (c9 ?_)
    cases oi aq
    refine c9 ?_
    cases oi Y
    exact S7 (vs:=[_,_]) results69 ⟨⟨_,_,u,B2 E8 (cs:=[V6 X.Id,V3 O R S,V3 T U V]) (fun j c e=>by rw [Nat.zero_add,au.mem_obj m0];exact e) (.inl ⟨u,u,u⟩)⟩,u,trivial⟩ ⟨O,R,S,T,U,V,m,u,au.s,aK,aL,aM⟩
   refine j3 (x8 (qg (lv (B6 u u (C6 hi60 (b7.max ad))) (mv u (i8 ?_)))))
   cases oi ao
   exact qd ⟨_,u,x,y,G,H,I,J,m,u,ac.s,ab,ak,am,an⟩
  rintro s _ aB aS ⟨x,y,G,H,I,J,m,rfl,aa,ab,ak,am,an⟩
  subst aS
  refine sr (lv (u7 u u) (ns (C8 u (c6 (by omega)) (y4 (g8 (g8 (l6 ?_)))))))
  cases oi aq
  exact qd ⟨_,x,y,G,H,I,J,m,u,u,aa,ab,ak,am,an⟩
 rintro _ bf ⟨o,ae,af,ag,ah,ai,aj,q,rfl,rfl,aT,bg,bh,bi,bj⟩
 have Y:=E9 Y
 refine qr (lv (C3 (cs:=#[V6 0,V3 none 0 0,V3 none 0 0]) b4M E8 u (by kernel_rfl)) (lw [V6 0,V3 none 0 0,V3 none 0 0] E8 aT.f1 fun bk aw=>(lv (O6 u) (nq (j9 ?_)))))
 cases oi Y
 exact S7 (vs:=[_,_]) results69 ⟨⟨_,_,u,B2 E8 (cs:=[V6 0,V3 none 0 0,V3 none 0 0]) (fun j c e=>by rw [Nat.zero_add,aw.mem_obj m0];exact e) (.inl ⟨u,u,u⟩)⟩,u,trivial⟩ ⟨none,0,0,none,0,0,q,u,aw.s,I5,(b7.nil _ _),(b7.nil _ _)⟩

theorem a90 {q0:List Int}{q1:List Int}{r:Bool}(hS:SH w K [] w K [])(k:b7 D6 K A a b q0)(x:b7 D6 K B c d q1)(hm:X5 F q0 q1=some r):
  Calls prog 164 #[V3 A a b,V3 B c d] w (R_b w K r):=by
 rw [X5] at hm
 refine ci func164 u ntmps164 (sr (lv (O6 u) (O7 (mv u (lv (q9 underlying46 u k) (mv u (lv (q9 underlying46 u x) (lv (R2 u u) (nq ?_)))))))))
 refine R9 u (fun l=>?_) (fun l=>?_)
 ·have m:=a1a l hm
  refine sr (lv (O6 u) (nq (rr ?_)))
  cases oi m
  exact ey results164 ⟨K,u,hS⟩
 have m:=a09 l hm
 refine j3 (qs (sr (lv (N2 u) (nq ?_))))
 obtain⟨I,J,i⟩:=ob m
 refine l4 (IE I w K [] K [] []) ?_ ?_
 ·refine j7 ?_
  obtain⟨ap,O,y⟩:=ob J
  refine qw (fun (o:Int)=>IW w K [] K [(0,V3 A a b),(1,V3 B c d),(5,V6 o)] [] (i7 o)) O ⟨K,u,hS,kr,I5⟩ ?_
  rintro o _ aq ar R C ⟨S,rfl,D,f,au⟩
  refine o4 (sr (mv u (mv u (lv (q9 underlying46 u (k.mono f)) (lv (u7 u u) (nq (D5 R u (fun T q=>?_) (fun T q=>?_))))))))
  ·refine j3 (qs (j7 (o4 (D4 mixed (by kernel_rfl) D (km u (km u ?_))))))
   obtain⟨U,V,W⟩:=ob q
   refine ki underlying46 E6 (k.mono f) V fun X Y aw aa ab=>?_
   obtain⟨rfl,ax⟩:=aa
   have ac:F1 _ X Y [V6 U]:=ab
   refine kh (C1 E6 u (ac 0 _ u)) (km u (km u ?_))
   obtain⟨ad,ae,af⟩:=ob W
   refine ki underlying46 E6 (x.mono f) ae fun ag ah ay ai aj=>?_
   obtain⟨rfl,az⟩:=ai
   have ak:F1 _ ag ah [V6 ad]:=aj
   refine kh (C1 E6 u (ak 0 _ u)) (kv (R2 u u) (B4 ?_))
   rintro aA ⟨G,H,al⟩
   refine l5 (D5 af u (fun am s=>?_) (fun am s=>?_))
   ·refine sr (lv (O6 u) (nq (j9 (i9 (c9 (c9 ?_))))))
    cases oi s
    cases C _ u
    refine i9 (c9 ?_)
    cases oi y
    refine c9 ?_
    cases oi i
    exact ey results164 ⟨G,u,H⟩
   refine j3 (x8 (l5 (j5 (mv u (lv (y7 u u) (av u (i8 ?_)))))))
   cases oi s
   exact qd ⟨_,u,G,u,H,(f.trans al),(u0 _)⟩
  refine y4 (g8 (g8 ?_))
  cases oi q
  cases C _ u
  refine l6 ?_
  cases oi y
  exact L6 ⟨_,S,u,u,D,f⟩ trivial
 rintro _ aB ⟨aC,an,rfl,rfl,ao,aD⟩
 have i:=E9 i
 refine qr (lv (r_t u) (nq (j9 ?_)))
 cases oi i
 exact ey results164 ⟨an,u,ao⟩

theorem a9u {q0:C0}{q1:C0}{r:Bool}(hS:SH w K [] w K [])(bF:q0.Field.length≤maxLen)(bG:q0.Term.length≤maxLen)(x:b7 S2 K A a b q0.Posts)(bH:q1.Field.length≤maxLen)(bI:q1.Term.length≤maxLen)(G:b7 S2 K B c d q1.Posts)(hm:a0r F q0 q1=some r):
  Calls prog 121 #[.agg #[sv q0.Field,sv q0.Term,V3 A a b],.agg #[sv q1.Field,sv q1.Term,V3 B c d]] w (R_b w K r):=by
 rw [a0r] at hm
 refine ci func121 u ntmps121 (sr (bx u hS fun m bJ ac=>?_))
 have ad:SH _ _ _ _ _ [s7 m [sv q0.Field,sv q0.Term,V3 A a b] 99]:=ac
 refine bx u ad fun o bK ae=>?_
 have k:SH _ _ _ _ _ [s7 o [sv q1.Field,sv q1.Term,V3 B c d] 99,_]:=ae
 refine lv (O6 u) (ns (o4 ?_))
 obtain⟨af,ag,ah⟩:=ob hm
 refine l4 (IV w K [] K [(2,pt m),(3,pt o),(26,.bool af)] [s7 m [sv q0.Field,sv q0.Term,V3 A a b] 99,s7 o [sv q1.Field,sv q1.Term,V3 B c d] 99]) ?_ ?_
 ·refine j5 (fl a3z u G7 m1 k u (fl a3z u G7 m0 k u (lv (a2C u u) (mv u (bt ag (fun l H=>?_) (fun l H=>?_))))))
  ·iterate 5 refine lu l ?_
   refine lv (J6 u l u) (mv u ?_)
   iterate 7 refine lu u ?_
   refine lv (J6 u u u) (i8 ?_)
   cases oi H
   exact qd ⟨K,u,k.f1,kr⟩
  refine lg l (c7 a21 u) (lg l (w8 G7 u m1 k u) (lg l (c7 a21 u) (lg l (w8 G7 u m0 k u) (lg l (a2C u u) (lv (l9 u l u) (mv u (bt H (fun i I=>?_) (fun i I=>?_))))))))
  ·iterate 7 refine lu i ?_
   refine lv (J6 u i u) (i8 ?_)
   cases oi I
   exact qd ⟨K,u,k.f1,kr⟩
  refine lg i (c7 Y0 u) (lg i (w8 a5B u m1 k u) (lg i (q9 underlying37 u x) (lg i (c7 Y0 u) (lg i (w8 a5B u m0 k u) (lg i (q9 underlying37 u G) (lg i (R2 u u) (lv (l9 u i u) (i8 ?_))))))))
  cases oi I
  exact qd ⟨K,u,k.f1,kr⟩
 rintro _ bL ⟨y,rfl,U,s⟩
 refine l5 (D5 ah u (fun ai J=>?_) (fun ai J=>?_))
 ·refine sr (lv (O6 u) (nq (rr ?_)))
  cases oi J
  exact ey results121 ⟨y,u,U.s⟩
 refine j3 (qs (sr (lv (N2 u) (nq ?_))))
 obtain⟨aj,ak,C⟩:=ob J
 refine l4 (IE aj w K [] y [] []) ?_ ?_
 ·refine j7 ?_
  obtain⟨bM,al,V⟩:=ob ak
  refine qw (fun (D:Int)=>IW w K [] y [(2,pt m),(3,pt o),(5,V6 D)] [s7 m [sv q0.Field,sv q0.Term,V3 A a b] 99,s7 o [sv q1.Field,sv q1.Term,V3 B c d] 99] (i7 D)) al ⟨y,u,U,kr,I5⟩ ?_
  rintro D _ bN bO am W ⟨X,rfl,O,q,bP⟩
  refine o4 (sr (mv u (fl Y0 u a5B m0 O u (lv (q9 underlying37 u (x.mono (s.trans q))) (lv (u7 u u) (nq (D5 am u (fun an R=>?_) (fun an R=>?_))))))))
  ·refine j3 (qs (j7 (o4 ?_)))
   obtain⟨ao,ap,aq⟩:=ob R
   refine l4 (IV w K [] X [(2,pt m),(3,pt o),(5,V6 D),(62,.bool ao)] [s7 m [sv q0.Field,sv q0.Term,V3 A a b] 99,s7 o [sv q1.Field,sv q1.Term,V3 B c d] 99]) ?_ ?_
   ·refine D4 mixed (by kernel_rfl) O (kv (c7 Y0 u) (kh (z6 a5B u m0 u) (km u ?_)))
    obtain⟨ar,au,aw⟩:=ob ap
    refine ki underlying37 a02 (x.mono (s.trans q)) au fun ax ay bQ az aA=>?_
    obtain⟨aB,aC,aD,rfl,bR,bS⟩:=az
    have aE:F1 _ ax ay [V6 ar.Doc,V3 aB aC aD]:=aA
    refine kv (c7 a5U u) (kh (C1 E6 u (aE 0 _ u)) (kv (c7 Y0 u) (kh (z6 a5B u m1 u) (km u ?_))))
    obtain⟨aF,aG,aH⟩:=ob aw
    refine ki underlying37 a02 (G.mono (s.trans q)) aG fun aI aJ bT aK aL=>?_
    obtain⟨aM,aN,aO,rfl,bU,bV⟩:=aK
    have aP:F1 _ aI aJ [V6 aF.Doc,V3 aM aN aO]:=aL
    refine kv (c7 a5U u) (kh (C1 E6 u (aP 0 _ u)) (kv (R2 u u) (km u (bt aH (fun f S=>?_) (fun f S=>?_)))))
    ·iterate 14 refine kn f ?_
     refine kv (J6 u f u) (B4 ?_)
     rintro bW ⟨aQ,aR,aS⟩
     cases oi S
     exact qd ⟨aQ,u,aR,aS⟩
    refine kg f (c7 Y0 u) (kgh f (z6 a5B u m0 u) (kg f (i5 u) ?_))
    obtain⟨aT,aU,aV⟩:=ob S
    refine C7 (t:=S2) (wg u u f) u underlying37 a02 u u (x.mono (s.trans q)) aU fun aW aX bX aY aZ=>?_
    obtain⟨ba,bb,bc,rfl,bY,bd⟩:=aY
    have be:F1 _ aW aX [V6 aT.Doc,V3 ba bb bc]:=aZ
    refine kg f (c7 a4M u) (kgh f (C1 a1g u (be 1 _ u)) (kg f (c7 Y0 u) (kgh f (z6 a5B u m1 u) (kg f (i5 u) ?_))))
    obtain⟨bf,bg,bh⟩:=ob aV
    refine C7 (t:=S2) (wg u u f) u underlying37 a02 u u (G.mono (s.trans q)) bg fun bi bj bZ bk bl=>?_
    obtain⟨bm,bn,bo,rfl,ca,bp⟩:=bk
    have bq:F1 _ bi bj [V6 bf.Doc,V3 bm bn bo]:=bl
    refine kg f (c7 a4M u) (kgh f (C1 a1g u (bq 1 _ u)) ?_)
    obtain⟨cb,br,bs⟩:=ob bh
    refine kcg f c51 (fun _ _ bu Y=>(a90 F) bu.enter0 (bd.mono Y) (bp.mono Y) br) (kg f (A4 u) (kv (l9 u f u) (B4 ?_)))
    rintro cc ⟨bv,bz,bA⟩
    cases oi bs
    exact qd ⟨bv,u,bz,bA⟩
   rintro _ cd ⟨aa,rfl,ab,bB⟩
   refine l5 (D5 aq u (fun bC T=>?_) (fun bC T=>?_))
   ·refine sr (lv (O6 u) (nq (j9 (i9 (c9 (c9 ?_))))))
    cases oi T
    cases W _ u
    refine i9 (c9 ?_)
    cases oi V
    refine c9 ?_
    cases oi C
    exact ey results121 ⟨aa,u,ab.s⟩
   refine j3 (x8 (l5 (j5 (mv u (lv (y7 u u) (av u (i8 ?_)))))))
   cases oi T
   exact qd ⟨_,u,aa,u,ab,(q.trans bB),(u0 _)⟩
  refine y4 (g8 (g8 ?_))
  cases oi R
  cases W _ u
  refine l6 ?_
  cases oi V
  exact L6 ⟨_,X,u,u,O.s,q⟩ trivial
 rintro _ ce ⟨cf,bD,rfl,rfl,bE,cg⟩
 have C:=E9 C
 refine qr (lv (r_t u) (nq (j9 ?_)))
 cases oi C
 exact ey results121 ⟨bD,u,bE⟩

theorem a2l {q0:A5}{q1:r4}{q2:r4}{r:(List F7)}(hS:SH w K [] w K [])(aP:b7 F6 K A a b q0.Docs)(m:b7 B8 K B c d q0.Entries)(aQ:q1.length≤maxLen)(aR:q2.length≤maxLen)(hm:a1u F q0 q1 q2=some r):
  Calls prog 173 #[.agg #[V3 A a b,V3 B c d],sv q1,sv q2] w fun e w'=>∃a_1 n_2 c_3 K',e= .returned (V3 a_1 n_2 c_3)∧SH w K [] w' K' []∧b7 S2 K' a_1 n_2 c_3 r:=by
 rw [a1u] at hm
 refine ci func173 u ntmps173 (sr (bx u hS fun l aS W=>?_))
 have X:SH _ _ _ _ _ [s7 l [V3 A a b,V3 B c d] 30]:=W
 refine lv (r_n u) (O7 (lv (N2 u) (nq ?_)))
 obtain⟨Y,aa,o⟩:=ob hm
 refine l4 (IE Y w K [] K [] []) ?_ ?_
 ·refine j7 ?_
  obtain⟨aT,ab,G⟩:=ob aa
  refine qw (fun (q:Int)=>IW w K [] K [(1,sv q1),(2,sv q2),(3,pt l),(7,V6 q)] [s7 l [V3 A a b,V3 B c d] 30] (i7 q)) ab ⟨K,u,X,kr,I5⟩ ?_
  rintro q _ aU aV ac H ⟨s,rfl,i,k,aW⟩
  refine o4 (sr (mv u (fl M2 u a1e m0 i u (lv (q9 underlying28 u (m.mono k)) (lv (u7 u u) (nq (D5 ac u (fun ad y=>?_) (fun ad y=>?_))))))))
  ·refine j3 (qs (j7 (o4 ?_)))
   obtain⟨ae,af,ag⟩:=ob y
   refine l4 (IV w K [] s [(1,sv q1),(2,sv q2),(3,pt l),(7,V6 q),(32,.bool ae)] [s7 l [V3 A a b,V3 B c d] 30]) ?_ ?_
   ·refine j5 (fl M2 u a1e m0 i u (mv u ?_))
    obtain⟨I,ah,ai⟩:=ob af
    refine li underlying28 P2 (m.mono k) ah fun aj ak aX al am=>?_
    obtain⟨an,ao,ap,rfl,aY,aZ,ba⟩:=al
    have aq:F1 _ aj ak [sv I.Field,sv I.Term,V3 an ao ap]:=am
    refine fa a3z u (lv (y9 G7 u i (aq 0 _ u)) (mv u (lv (J8 u u) (mv u (bt ai (fun f C=>?_) (fun f C=>?_))))))
    ·refine lg f (c7 M2 u) (lg f (w8 a1e u m0 i u) (lg f (i5 u) ?_))
     obtain⟨J,ar,au⟩:=ob C
     refine N1 (t:=B8) (wg u u f) u underlying28 P2 u u (m.mono k) ar fun aw ax bb ay az=>?_
     obtain⟨aA,aB,aC,rfl,bc,bd,be⟩:=ay
     have aD:F1 _ aw ax [sv J.Field,sv J.Term,V3 aA aB aC]:=az
     refine lg f (c7 a21 u) (lg f (y9 G7 u i (aD 1 _ u)) (lg f (i5 u) (lg f (J8 u u) (lv (n9 u f u) (i8 ?_)))))
     cases oi au
     exact qd ⟨s,u,i,kr⟩
    iterate 8 refine lu f ?_
    refine lv (L8 u f u) (i8 ?_)
    cases oi C
    exact qd ⟨s,u,i,kr⟩
   rintro _ bf ⟨O,rfl,x,R⟩
   refine l5 (D5 ag u (fun aE D=>?_) (fun aE D=>?_))
   ·refine sr (fl M2 u a1e m0 x u (mv u ?_))
    obtain⟨S,aF,aG⟩:=ob D
    refine li underlying28 P2 (m.mono (k.trans R)) aF fun aH aI bg aJ aK=>?_
    obtain⟨T,U,V,rfl,bh,bi,aL⟩:=aJ
    have aM:F1 _ aH aI [sv S.Field,sv S.Term,V3 T U V]:=aK
    refine fa Y0 u (lv (y9 a5B u x (aM 2 _ u)) (av u (nq (j9 (i9 (c9 (c9 ?_)))))))
    cases oi aG
    cases H _ u
    refine i9 (c9 ?_)
    cases oi G
    refine c9 ?_
    cases oi o
    exact ey results173 ⟨T,U,V,O,u,x.s,aL⟩
   refine j3 (x8 (l5 (j5 (mv u (lv (y7 u u) (av u (i8 ?_)))))))
   cases oi D
   exact qd ⟨_,u,O,u,x,(k.trans R),(u0 _)⟩
  refine y4 (g8 (g8 ?_))
  cases oi y
  cases H _ u
  refine l6 ?_
  cases oi G
  exact L6 ⟨_,s,u,u,i.s,k⟩ trivial
 rintro _ bj ⟨bk,aN,rfl,rfl,aO,bl⟩
 have o:=E9 o
 refine qr (lv (r_n u) (nq (j9 ?_)))
 cases oi o
 exact ey results173 ⟨none,0,0,aN,u,aO,(b7.nil _ _)⟩

theorem a6F {q0:A5}{q1:r4}{q2:r4}{q3:Int}{r:(List Int)}(hS:SH w K [] w K [])(J:b7 F6 K A a b q0.Docs)(O:b7 B8 K B c d q0.Entries)(R:q1.length≤maxLen)(S:q2.length≤maxLen)(aJ:i7 q3)(hm:a1P F q0 q1 q2 q3=some r):
  Calls prog 169 #[.agg #[V3 A a b,V3 B c d],sv q1,sv q2,V6 q3] w fun e w'=>∃a_1 n_2 c_3 K',e= .returned (V3 a_1 n_2 c_3)∧SH w K [] w' K' []∧b7 D6 K' a_1 n_2 c_3 r:=by
 rw [a1P] at hm
 refine ci func169 u ntmps169 (sr (bx u hS fun T aK U=>?_))
 have l:SH _ _ _ _ _ [s7 T [V3 A a b,V3 B c d] 30]:=U
 refine lv (r_n u) (nr (lv (j6 (ds:=[V3 A a b,V3 B c d]) C4 u m0 l u u) (mv u (mv u ?_))))
 obtain⟨aL,V,W⟩:=ob hm
 refine lk b6v (a2l F l.enter0 J O R S V) ?_
 rintro aM aN ⟨X,Y,aa,m,rfl,ab,o⟩
 have ac:=(l.c0 ab).t1
 refine av u (O7 (lv (N2 u) (nq ?_)))
 obtain⟨ad,ae,k⟩:=ob W
 refine l4 (IE ad w K [] m [] []) ?_ ?_
 ·refine j7 ?_
  obtain⟨aO,af,C⟩:=ob ae
  have ag:=ac.sb (sd sz)
  refine qw (fun (q:Int)=>IW w K [] m [(3,V6 q3),(9,V3 X Y aa),(10,V6 q)] [] (i7 q)) af ⟨m,u,ag,kr,I5⟩ ?_
  rintro q _ aP aQ ah D ⟨s,rfl,f,i,aR⟩
  refine o4 (sr (mv u (mv u (lv (q9 underlying37 u (o.mono i)) (lv (u7 u u) (nq (D5 ah u (fun ai x=>?_) (fun ai x=>?_))))))))
  ·refine j3 (qs (j7 (sr (mv u (mv u ?_)))))
   obtain⟨aj,ak,al⟩:=ob x
   refine li underlying37 a02 (o.mono i) ak fun am an aS ao ap=>?_
   obtain⟨aq,ar,au,rfl,aT,aU⟩:=ao
   have aw:F1 _ am an [V6 aj.Doc,V3 aq ar au]:=ap
   refine fa a5U u (lv (y9 E6 u f (aw 0 _ u)) (mv u (lv (A9 u u) (nq (D5 al u (fun ax y=>?_) (fun ax y=>?_))))))
   ·refine sr (mv u (mv u ?_))
    obtain⟨ay,az,aA⟩:=ob y
    refine li underlying37 a02 (o.mono i) az fun aB aC aV aD aE=>?_
    obtain⟨G,H,I,rfl,aW,aF⟩:=aD
    have aG:F1 _ aB aC [V6 ay.Doc,V3 G H I]:=aE
    refine fa a4M u (lv (y9 a1g u f (aG 1 _ u)) (av u (nq (j9 (i9 (c9 (c9 ?_)))))))
    cases oi aA
    cases D _ u
    refine i9 (c9 ?_)
    cases oi C
    refine c9 ?_
    cases oi k
    exact ey results169 ⟨G,H,I,s,u,f,aF⟩
   refine j3 (x8 (l5 (j5 (mv u (lv (y7 u u) (av u (i8 ?_)))))))
   cases oi y
   exact qd ⟨_,u,s,u,f,i,(u0 _)⟩
  refine y4 (g8 (g8 ?_))
  cases oi x
  cases D _ u
  refine l6 ?_
  cases oi C
  exact L6 ⟨_,s,u,u,f,i⟩ trivial
 rintro _ aX ⟨aY,aH,rfl,rfl,aI,aZ⟩
 have k:=E9 k
 refine qr (lv (r_n u) (nq (j9 ?_)))
 cases oi k
 exact ey results169 ⟨none,0,0,aH,u,aI,(b7.nil _ _)⟩

theorem b3O (F:Nat): ∀{w:World} {K:F9} {q0:Int} {q1:Int} {r:Int} (hS:SH w K [] w K []) (d:i7 q0) (f:i7 q1) (hm:a06 F q0 q1=some r),
  Calls prog 234 #[V6 q0,V6 q1] w (R_i w K r):=by
 induction F with
 | zero=>intros;rename_i hm;rw [a06] at hm;cases hm
 | succ F ih=>
  intro w K q0 q1 r hS d f hm
  rw [a06] at hm
  refine ci func234 u ntmps234 (sr (lv (N2 u) (O7 (mv u (lv (u7 u u) (nq ?_))))))
  obtain⟨i,m,o⟩:=ob hm
  refine l4 (IW w K [] K [(0,V6 i),(1,V6 q1)] [] (i7 i)) ?_ ?_
  ·refine D5 m u (fun q a=>?_) (fun q a=>?_)
   ·refine j5 (mv u (lv (a8I u) (av u (i8 ?_))))
    cases oi a
    exact qd ⟨K,u,hS,kr,(u0 _)⟩
   refine j3 ?_
   cases oi a
   exact qd ⟨K,u,hS,kr,d⟩
  rintro _ I ⟨s,rfl,b,J,k⟩
  refine qs (sr (mv u (lv (A9 u u) (nq (D5 o u (fun x c=>?_) (fun x c=>?_))))))
  ·refine sr (mv u (av u (nq (rr ?_))))
   cases oi c
   exact ey results234 ⟨s,u,b,k⟩
  refine j3 (qr (mv u (mv u (mv u ?_))))
  obtain⟨O,l,y⟩:=ob c
  refine lv (a8J u u l) ?_
  obtain⟨R,A,B⟩:=ob y
  refine lk c36 (ih b.enter0 f (b29 k l) A) ?_
  rintro S T ⟨C,rfl,D,G⟩
  have H:=(b.c0 D).t0
  refine av u (nq (j9 ?_))
  cases oi B
  exact ey results234 ⟨C,u,H,G⟩

theorem b2D {q0:Int}{q1:Int}{r:a6l}(hS:SH w K [] w K [])(s:i7 q0)(v:i7 q1)(hm:a2J F q0 q1=some r):
  Calls prog 208 #[V6 q0,V6 q1] w fun e w'=>∃K',e= .returned (.agg #[V6 r.Up,V6 r.Down])∧SH w K [] w' K' []∧i7 r.Up∧i7 r.Down:=by
 rw [a2J] at hm
 refine ci func208 u ntmps208 (sr (al V4 hS fun g3 S x=>?_))
 have d:SH _ _ _ _ _ [s7 g3 [V6 0,V6 0] 50]:=x
 refine O7 (mv u (lv (u7 u u) (nq ?_)))
 obtain⟨a,y,A⟩:=ob hm
 refine l4 (IW w K [] K [(0,V6 a.1),(1,V6 a.2),(4,pt g3)] [s7 g3 [V6 0,V6 0] 50] (i7 a.1∧i7 a.2)) ?_ ?_
 ·refine D5 y u (fun B b=>?_) (fun B b=>?_)
  ·refine sr (mv u (lv (a8I u) (av u (nq (j5 (mv u (lv (a8I u) (av u (i8 ?_)))))))))
   cases oi b
   exact qd ⟨K,u,d,kr,(u0 _),(u0 _)⟩
  refine j3 ?_
  cases oi b
  exact qd ⟨K,u,d,kr,s,v⟩
 rintro _ T ⟨U,rfl,f,V,C,D⟩
 refine qr (mv u (mv u ?_))
 obtain⟨W,G,H⟩:=ob A
 refine lk c36 (b3O F f.enter0 C D G) ?_
 rintro X Y ⟨i,rfl,I,aa⟩
 have J:=(f.c0 I).t1
 refine av u (ns ?_)
 have k:=J.drew
 refine wh1 (fun w'=>H0 i w') (fun w'=>True) 8 [] mixed (k.hasK kr) (fun _=>trivial) (gt (i5 u) (gt (i5 u) ?_))
 obtain⟨l,m,O⟩:=ob H
 refine gt (a4D u u m) (gt (i5 u) (gt (i5 u) ?_))
 obtain⟨o,q,R⟩:=ob O
 refine gt (a4D u u q) (gt (C3 (cs:=#[V6 l,V6 o]) c6M V4 u (by kernel_rfl)) (gn (lw [V6 l,V6 o] V4 k fun ab c=>(i8 (qh (c.hasK kr) (fun _=>trivial) (gd' (l5 (j9 ?_))))))))
 cases oi R
 exact ez results208 V4 c m0 ⟨i,u,c.s,(a32 m),(a32 q)⟩

theorem b2H {q0:Int}{q1:Int}{r:Int}(hS:SH w K [] w K [])(s:i7 q0)(U:i7 q1)(hm:a2M F q0 q1=some r):
  Calls prog 209 #[V6 q0,V6 q1] w (R_i w K r):=by
 rw [a2M] at hm
 refine ci func209 u ntmps209 (sr (lv (N2 u) (nr (lv (N2 u) (ns ?_)))))
 obtain⟨i,x,y⟩:=ob hm
 refine l4 (IW w K [] K [(5,V6 i)] [] (i7 i)) ?_ ?_
 ·refine j7 ?_
  obtain⟨V,A,B⟩:=ob x
  refine qw (fun (b:Int×Int)=>IW w K [] K [(0,V6 b.1),(1,V6 q1),(5,V6 b.2)] [] (i7 b.1∧i7 b.2)) A ⟨K,u,hS,kr,s,I5⟩ ?_
  rintro b _ W X C D ⟨c,rfl,k,l,Y,G⟩
  refine o4 (o4 ?_)
  obtain⟨H,I,J⟩:=ob C
  refine l4 (IV w K [] c [(0,V6 b.1),(1,V6 q1),(5,V6 b.2),(13,.bool H)] []) ?_ ?_
  ·refine j5 (mv u (lv (E7 u u) (mv u (bt I (fun a d=>?_) (fun a d=>?_)))))
   ·refine lg a (i5 u) (lg a (U4 u u) (lg a (i5 u) (lg a (V2 u u) (lv (n9 u a u) (i8 ?_)))))
    cases oi d
    exact qd ⟨c,u,k,kr⟩
   refine lu a (lu a (lu a (lu a (lv (L8 u a u) (i8 ?_)))))
   cases oi d
   exact qd ⟨c,u,k,kr⟩
  rintro _ aa ⟨m,rfl,o,q⟩
  refine l5 (D5 J u (fun O f=>?_) (fun O f=>?_))
  ·refine j3 (l5 (j7 (sr (mv u (lv (U4 u u) (av u (nq (j5 (mv u ?_)))))))))
   refine lv (y7 u u) (av u (nb ?_))
   cases oi f
   exact qd ⟨_,u,m,u,o,(l.trans q),(u0 _),(u0 _)⟩
  refine y4 (g8 (g8 ?_))
  cases oi f
  cases D _ u
  refine l6 ?_
  cases oi B
  exact qd ⟨m,u,o,(l.trans q),G⟩
 rintro _ w9 ⟨R,rfl,S,ac,T⟩
 refine qr (mv u (av u (nq (j9 ?_))))
 cases oi y
 exact ey results209 ⟨R,u,S,T⟩

theorem a2i {q0:Int}{q1:Int}{q2:Int}{q3:Int}{q4:Int}{r:a6l}(hS:SH w K [] w K [])(U:i7 q0)(V:i7 q1)(W:i7 q2)(o:i7 q3)(q:i7 q4)(hm:a2N F q0 q1 q2 q3 q4=some r):
  Calls prog 170 #[V6 q0,V6 q1,V6 q2,V6 q3,V6 q4] w fun e w'=>∃K',e= .returned (.agg #[V6 r.Up,V6 r.Down])∧SH w K [] w' K' []∧i7 r.Up∧i7 r.Down:=by
 rw [a2N] at hm
 refine ci func170 u ntmps170 (sr (al V4 hS fun a X s=>?_))
 have c:SH _ _ _ _ _ [s7 a [V6 0,V6 0] 50]:=s
 refine nr (lv (u9 (v:=V6 1) u) (O7 (mv u (lv (E7 u u) (nq ?_)))))
 obtain⟨d,x,y⟩:=ob hm
 refine l4 (IW w K [] K [(0,V6 q0),(3,V6 q3),(4,V6 q4),(10,pt a),(11,V6 d)] [s7 a [V6 0,V6 0] 50] (i7 d)) ?_ ?_
 ·refine D5 x u (fun A b=>?_) (fun A b=>?_)
  ·refine j5 (mv u (mv u (lv (U4 u u) (lv (U4 u u) (mv u ?_)))))
   obtain⟨Y,f,B⟩:=ob b
   refine lv (a4D u u f) (av u (i8 ?_))
   cases oi B
   exact qd ⟨K,u,c,kr,(a32 f)⟩
  refine j3 ?_
  cases oi b
  exact qd ⟨K,u,c,kr,(by decide :i7 1)⟩
 rintro _ aa ⟨ab,rfl,i,ac,ad⟩
 refine qr (mv u (mv u ?_))
 obtain⟨ae,C,D⟩:=ob y
 refine lk c6m (b2H F i.enter0 q o C) ?_
 rintro af ag ⟨ah,rfl,G,ai⟩
 have k:=(i.c0 G).t1
 refine lv (y7 u u) (lv (U4 u u) (mv u (lv (U4 u u) (mv u (lv (U4 u u) (lv (y7 u u) (mv u (lv (y7 u u) ?_))))))))
 obtain⟨l,H,I⟩:=ob D
 refine lk c6l (b2D F k.enter0 (u0 _) (u0 _) H) ?_
 rintro aj ak ⟨J,rfl,O,R,S⟩
 have T:=(k.c0 O).t1
 refine lw [V6 l.Up,V6 l.Down] V4 T fun am m=>(nq (j9 ?_))
 cases oi I
 exact ez results170 V4 m m0 ⟨J,u,m.s,R,S⟩

theorem a8B {q0:A5}{q1:r4}{q2:Int}{r:Int}(hS:SH w K [] w K [])(bX:b7 F6 K A a b q0.Docs)(x:b7 B8 K B c d q0.Entries)(bY:q1.length≤maxLen)(bZ:i7 q2)(hm:a3P F q0 q1 q2=some r):
  Calls prog 171 #[.agg #[V3 A a b,V3 B c d],sv q1,V6 q2] w (R_i w K r):=by
 rw [a3P] at hm
 refine ci func171 u ntmps171 (sr (bx u hS fun i ca ab=>?_))
 have ac:SH _ _ _ _ _ [s7 i [V3 A a b,V3 B c d] 30]:=ab
 refine lv (N2 u) (nr (lv (N2 u) (O7 (lv (N2 u) (nq ?_)))))
 obtain⟨S,ad,ae⟩:=ob hm
 refine l4 (IW w K [] K [(7,V6 S)] [] (i7 S)) ?_ ?_
 ·refine j7 ?_
  obtain⟨cb,af,ag⟩:=ob ad
  refine qw (fun (l:Int×Int)=>IW w K [] K [(1,sv q1),(2,V6 q2),(3,pt i),(7,V6 l.1),(8,V6 l.2)] [s7 i [V3 A a b,V3 B c d] 30] (i7 l.1∧i7 l.2)) af ⟨K,u,ac,kr,I5,I5⟩ ?_
  rintro l _ cc cd ah ai ⟨C,rfl,D,m,T,ce⟩
  refine o4 (sr (mv u (fl M2 u a1e m0 D u (lv (q9 underlying28 u (x.mono m)) (lv (u7 u u) (nq (D5 ah u (fun aj G=>?_) (fun aj G=>?_))))))))
  ·refine j3 (qs (j7 (sr (lv (N2 u) (nq ?_)))))
   obtain⟨U,ak,al⟩:=ob G
   refine l4 (IW w K [] C [(1,sv q1),(2,V6 q2),(3,pt i),(7,V6 U),(8,V6 l.2)] [s7 i [V3 A a b,V3 B c d] 30] (i7 U)) ?_ ?_
   ·refine j7 ?_
    obtain⟨cf,am,an⟩:=ob ak
    refine qw (fun (o:Int×Int)=>IW w K [] C [(1,sv q1),(2,V6 q2),(3,pt i),(7,V6 o.1),(8,V6 l.2),(9,V6 o.2)] [s7 i [V3 A a b,V3 B c d] 30] (i7 o.1∧i7 o.2)) am ⟨C,u,D,kr,T,I5⟩ ?_
    rintro o _ cg ch ao ap ⟨H,rfl,s,q,V,cj⟩
    refine o4 (o4 ?_)
    obtain⟨aq,ar,au⟩:=ob ao
    refine l4 (IV w K [] H [(1,sv q1),(2,V6 q2),(3,pt i),(7,V6 o.1),(8,V6 l.2),(9,V6 o.2),(35,.bool aq)] [s7 i [V3 A a b,V3 B c d] 30]) ?_ ?_
    ·refine j5 (mv u (fl M2 u a1e m0 s u (mv u ?_)))
     obtain⟨W,aw,ax⟩:=ob ar
     refine li underlying28 P2 (x.mono (m.trans q)) aw fun ay az ck aA aB=>?_
     obtain⟨aC,aD,aE,rfl,cl,cm,aF⟩:=aA
     have aG:F1 _ ay az [sv W.Field,sv W.Term,V3 aC aD aE]:=aB
     refine fa Y0 u (lv (y9 a5B u s (aG 2 _ u)) (lv (q9 underlying37 u aF) (lv (u7 u u) (mv u (bt ax (fun f I=>?_) (fun f I=>?_))))))
     ·refine lg f (c7 M2 u) (lg f (w8 a1e u m0 s u) (lg f (i5 u) ?_))
      obtain⟨X,aH,aI⟩:=ob I
      refine N1 (t:=B8) (wg u u f) u underlying28 P2 u u (x.mono (m.trans q)) aH fun aJ aK cn aL aM=>?_
      obtain⟨aN,aO,aP,rfl,cp,cq,cr⟩:=aL
      have aQ:F1 _ aJ aK [sv X.Field,sv X.Term,V3 aN aO aP]:=aM
      refine lg f (c7 a3z u) (lg f (y9 G7 u s (aQ 0 _ u)) (lg f (i5 u) (lg f (J8 u u) (lv (n9 u f u) (i8 ?_)))))
      cases oi aI
      exact qd ⟨H,u,s,kr⟩
     iterate 8 refine lu f ?_
     refine lv (L8 u f u) (i8 ?_)
     cases oi I
     exact qd ⟨H,u,s,kr⟩
    rintro _ cs ⟨J,rfl,k,y⟩
    refine l5 (D5 au u (fun aR O=>?_) (fun aR O=>?_))
    ·refine j3 (qs (j7 (sr (fl M2 u a1e m0 k u (mv u ?_)))))
     obtain⟨Y,aS,aT⟩:=ob O
     refine li underlying28 P2 (x.mono ((m.trans q).trans y)) aS fun aU aV ct aW aX=>?_
     obtain⟨aY,aZ,ba,rfl,cu,cv,bb⟩:=aW
     have bc:F1 _ aU aV [sv Y.Field,sv Y.Term,V3 aY aZ ba]:=aX
     refine fa Y0 u (lv (y9 a5B u k (bc 2 _ u)) (mv u ?_))
     obtain⟨bd,be,bf⟩:=ob aT
     refine li underlying37 a02 bb be fun bg bh cw bi bj=>?_
     obtain⟨bk,bl,bm,rfl,cx,cy⟩:=bi
     have bn:F1 _ bg bh [V6 bd.Doc,V3 bk bl bm]:=bj
     refine fa a5U u (lv (y9 E6 u k (bn 0 _ u)) (mv u (lv (A9 u u) (nq (D5 bf u (fun bo R=>?_) (fun bo R=>?_))))))
     ·refine j5 (mv u (fl M2 u a1e m0 k u (mv u ?_)))
      obtain⟨aa,bp,bq⟩:=ob R
      refine li underlying28 P2 (x.mono ((m.trans q).trans y)) bp fun br bs cz bu bv=>?_
      obtain⟨bz,bA,bB,rfl,cA,cB,bC⟩:=bu
      have bD:F1 _ br bs [sv aa.Field,sv aa.Term,V3 bz bA bB]:=bv
      refine fa Y0 u (lv (y9 a5B u k (bD 2 _ u)) (mv u ?_))
      obtain⟨bE,bF,bG⟩:=ob bq
      refine li underlying37 a02 bC bF fun bH bI cC bJ bK=>?_
      obtain⟨bL,bM,bN,rfl,cD,bO⟩:=bJ
      have bP:F1 _ bH bI [V6 bE.Doc,V3 bL bM bN]:=bK
      refine fa a4M u (lv (y9 a1g u k (bP 1 _ u)) (lv (q9 underlying46 u bO) (lv (y7 u u) (av u (nb (l5 (j5 (mv u (lv (y7 u u) ?_)))))))))
      refine av u (i8 ?_)
      cases oi bG
      exact qd ⟨_,u,J,u,k,(q.trans y),(u0 _),(u0 _)⟩
     refine j3 (x8 (l5 (j5 (mv u (lv (y7 u u) (av u (i8 ?_)))))))
     cases oi R
     exact qd ⟨_,u,J,u,k,(q.trans y),V,(u0 _)⟩
    refine y4 (g8 (g8 ?_))
    cases oi O
    cases ap _ u
    refine l6 ?_
    cases oi an
    exact qd ⟨J,u,k,(q.trans y),V⟩
   rintro _ cE ⟨bQ,rfl,bR,bS,bT⟩
   refine x8 (l5 (j5 (mv u (lv (y7 u u) (av u (i8 ?_))))))
   cases oi al
   exact qd ⟨_,u,bQ,u,bR,(m.trans bS),bT,(u0 _)⟩
  refine y4 (g8 (g8 ?_))
  cases oi G
  cases ai _ u
  refine l6 ?_
  cases oi ag
  exact qd ⟨C,u,D.s,m,T⟩
 rintro _ cF ⟨bU,rfl,bV,cG,bW⟩
 refine qr (mv u (av u (nq (j9 ?_))))
 cases oi ae
 exact ey results171 ⟨bU,u,bV,bW⟩

theorem a4W {q0:A5}{q1:r4}{r:Int}(hS:SH w K [] w K [])(bv:b7 F6 K A a b q0.Docs)(x:b7 B8 K B c d q0.Entries)(bz:q1.length≤maxLen)(hm:a19 F q0 q1=some r):
  Calls prog 172 #[.agg #[V3 A a b,V3 B c d],sv q1] w (R_i w K r):=by
 rw [a19] at hm
 refine ci func172 u ntmps172 (sr (bx u hS fun i bA X=>?_))
 have Y:SH _ _ _ _ _ [s7 i [V3 A a b,V3 B c d] 30]:=X
 refine lv (N2 u) (nr (lv (N2 u) (O7 (lv (N2 u) (nq ?_)))))
 obtain⟨O,aa,ab⟩:=ob hm
 refine l4 (IW w K [] K [(5,V6 O)] [] (i7 O)) ?_ ?_
 ·refine j7 ?_
  obtain⟨bB,ac,ad⟩:=ob aa
  refine qw (fun (k:Int×Int)=>IW w K [] K [(1,sv q1),(2,pt i),(5,V6 k.1),(6,V6 k.2)] [s7 i [V3 A a b,V3 B c d] 30] (i7 k.1∧i7 k.2)) ac ⟨K,u,Y,kr,I5,I5⟩ ?_
  rintro k _ bC bD ae af ⟨y,rfl,C,m,R,bE⟩
  refine o4 (sr (mv u (fl M2 u a1e m0 C u (lv (q9 underlying28 u (x.mono m)) (lv (u7 u u) (nq (D5 ae u (fun ag D=>?_) (fun ag D=>?_))))))))
  ·refine j3 (qs (j7 (sr (lv (N2 u) (nq ?_)))))
   obtain⟨S,ah,ai⟩:=ob D
   refine l4 (IW w K [] y [(1,sv q1),(2,pt i),(5,V6 S),(6,V6 k.2)] [s7 i [V3 A a b,V3 B c d] 30] (i7 S)) ?_ ?_
   ·refine j7 ?_
    obtain⟨bF,aj,ak⟩:=ob ah
    refine qw (fun (l:Int×Int)=>IW w K [] y [(1,sv q1),(2,pt i),(5,V6 l.1),(6,V6 k.2),(7,V6 l.2)] [s7 i [V3 A a b,V3 B c d] 30] (i7 l.1∧i7 l.2)) aj ⟨y,u,C,kr,R,I5⟩ ?_
    rintro l _ bG bH al am ⟨G,rfl,o,q,an,bI⟩
    refine o4 (o4 ?_)
    obtain⟨ao,ap,aq⟩:=ob al
    refine l4 (IV w K [] G [(1,sv q1),(2,pt i),(5,V6 l.1),(6,V6 k.2),(7,V6 l.2),(33,.bool ao)] [s7 i [V3 A a b,V3 B c d] 30]) ?_ ?_
    ·refine j5 (mv u (fl M2 u a1e m0 o u (mv u ?_)))
     obtain⟨T,ar,au⟩:=ob ap
     refine li underlying28 P2 (x.mono (m.trans q)) ar fun aw ax bJ ay az=>?_
     obtain⟨aA,aB,aC,rfl,bK,bL,aD⟩:=ay
     have aE:F1 _ aw ax [sv T.Field,sv T.Term,V3 aA aB aC]:=az
     refine fa Y0 u (lv (y9 a5B u o (aE 2 _ u)) (lv (q9 underlying37 u aD) (lv (u7 u u) (mv u (bt au (fun f H=>?_) (fun f H=>?_))))))
     ·refine lg f (c7 M2 u) (lg f (w8 a1e u m0 o u) (lg f (i5 u) ?_))
      obtain⟨U,aF,aG⟩:=ob H
      refine N1 (t:=B8) (wg u u f) u underlying28 P2 u u (x.mono (m.trans q)) aF fun aH aI bM aJ aK=>?_
      obtain⟨aL,aM,aN,rfl,bN,bO,bP⟩:=aJ
      have aO:F1 _ aH aI [sv U.Field,sv U.Term,V3 aL aM aN]:=aK
      refine lg f (c7 a3z u) (lg f (y9 G7 u o (aO 0 _ u)) (lg f (i5 u) (lg f (J8 u u) (lv (n9 u f u) (i8 ?_)))))
      cases oi aG
      exact qd ⟨G,u,o,kr⟩
     iterate 8 refine lu f ?_
     refine lv (L8 u f u) (i8 ?_)
     cases oi H
     exact qd ⟨G,u,o,kr⟩
    rintro _ bQ ⟨V,rfl,s,I⟩
    refine l5 (D5 aq u (fun aP J=>?_) (fun aP J=>?_))
    ·refine j3 (qs (j7 (j5 (mv u (fl M2 u a1e m0 s u (mv u ?_))))))
     obtain⟨W,aQ,aR⟩:=ob J
     refine li underlying28 P2 (x.mono ((m.trans q).trans I)) aQ fun aS aT bR aU aV=>?_
     obtain⟨aW,aX,aY,rfl,bS,bT,aZ⟩:=aU
     have ba:F1 _ aS aT [sv W.Field,sv W.Term,V3 aW aX aY]:=aV
     refine fa Y0 u (lv (y9 a5B u s (ba 2 _ u)) (mv u ?_))
     obtain⟨bb,bc,bd⟩:=ob aR
     refine li underlying37 a02 aZ bc fun be bf bU bg bh=>?_
     obtain⟨bi,bj,bk,rfl,bV,bl⟩:=bg
     have bm:F1 _ be bf [V6 bb.Doc,V3 bi bj bk]:=bh
     refine fa a4M u (lv (y9 a1g u s (bm 1 _ u)) (lv (q9 underlying46 u bl) (lv (y7 u u) (av u (nb (l5 (j5 (mv u (lv (y7 u u) ?_)))))))))
     refine av u (i8 ?_)
     cases oi bd
     exact qd ⟨_,u,V,u,s,(q.trans I),(u0 _),(u0 _)⟩
    refine y4 (g8 (g8 ?_))
    cases oi J
    cases am _ u
    refine l6 ?_
    cases oi ak
    exact qd ⟨V,u,s,(q.trans I),an⟩
   rintro _ bW ⟨bn,rfl,bo,bp,bq⟩
   refine x8 (l5 (j5 (mv u (lv (y7 u u) (av u (i8 ?_))))))
   cases oi ai
   exact qd ⟨_,u,bn,u,bo,(m.trans bp),bq,(u0 _)⟩
  refine y4 (g8 (g8 ?_))
  cases oi D
  cases af _ u
  refine l6 ?_
  cases oi ad
  exact qd ⟨y,u,C.s,m,R⟩
 rintro _ bX ⟨br,rfl,bs,bY,bu⟩
 refine qr (mv u (av u (nq (j9 ?_))))
 cases oi ab
 exact ey results172 ⟨br,u,bs,bu⟩

theorem a0W {q0:A5}{q1:r4}{q2:r4}{q3:Int}{r:Int}(hS:SH w K [] w K [])(l:b7 F6 K A a b q0.Docs)(o:b7 B8 K B c d q0.Entries)(q:q1.length≤maxLen)(G:q2.length≤maxLen)(ar:i7 q3)(hm:U9 F q0 q1 q2 q3=some r):
  Calls prog 130 #[.agg #[V3 A a b,V3 B c d],sv q1,sv q2,V6 q3] w (R_i w K r):=by
 rw [U9] at hm
 refine ci func130 u ntmps130 (sr (bx u hS fun aO bL ba=>?_))
 have au:SH _ _ _ _ _ [s7 aO [V3 A a b,V3 B c d] 30]:=ba
 refine lv (N2 u) (nr (lv (j6 (ds:=[V3 A a b,V3 B c d]) C4 u m0 au u u) (mv u (mv u (mv u ?_)))))
 obtain⟨bM,bb,bc⟩:=ob hm
 refine lk c1C (a6F F au.enter0 l o q G ar bb) ?_
 rintro bN bO ⟨bP,bQ,bR,aw,rfl,i,D⟩
 have aP:=(au.c0 i).t1
 refine lv (q9 underlying46 u D) (av u (O7 (mv u (lv (A9 u u) (nq (D5 bc u (fun bd ax=>?_) (fun bd ax=>?_)))))))
 ·refine sr (lv (N2 u) (nq (rr ?_)))
  cases oi ax
  exact ey results130 ⟨aw,u,aP.s,I5⟩
 refine j3 (qs ?_)
 obtain⟨X,be,bf⟩:=ob ax
 refine l4 (fun E' w'=>∃ay Y,E'=[(10,pt ay)]∧SH w K [] w' Y [s7 ay [V6 X.Up,V6 X.Down] 50]∧M0 aw Y∧i7 X.Up∧i7 X.Down) ?_ ?_
 ·obtain⟨bS,aQ,bg⟩:=ob be
  obtain⟨bT,az,bh⟩:=ob bg
  obtain⟨bU,aa,bi⟩:=ob bh
  obtain⟨s,H,I⟩:=ob bi
  have J:=aP.drew
  refine j_0 (fun w'=>H0 aw w'∧B0 aO [V3 A a b,V3 B c d] w') 19 [] mixed ⟨J.hasK kr,J.hasObj m0⟩ (jv 0 u (i5 u) (jh 1 u (fun _ h=>A0 (ds:=[V3 A a b,V3 B c d]) C4 u u u h.2) (jv 2 u (i5 u) (jv 3 u (i5 u) (jh 5 u (fun _ h=>A0 (ds:=[V3 A a b,V3 B c d]) C4 u u u h.2) (jv 6 u (i5 u) (jv 8 u (c7 L3 u) (jh 9 u (fun _ h=>B5 a1b u u h.2) (jv 10 u (q9 underlying27 u (l.mono i.le)) ?_)))))))))
  refine jh 11 u (fun _ h=>A0 (ds:=[V3 A a b,V3 B c d]) C4 u u u h.2) (jv 12 u (i5 u) (jv 13 u (i5 u) (j2 4 17 u u ?_ ?_)))
  ·refine lk c3X (a8B F J.enter0 (l.mono i.le) (o.mono i.le) q ar aQ) ?_
   rintro bV bW ⟨bX,rfl,f,ab⟩
   have O:=(J.c0 f).t1
   refine P0 ⟨O.hasK f.le,O.hasObj m0⟩ (j2 7 17 u u ?_ ?_)
   ·refine lk c1D (a4W F O.enter0 (l.mono (i.le.trans f.le)) (o.mono (i.le.trans f.le)) q az) ?_
    rintro bY bZ ⟨ca,rfl,k,aA⟩
    have R:=(O.c0 k).t1
    refine P0 ⟨R.hasK (f.le.trans k.le),R.hasObj m0⟩ (j2 14 17 u u ?_ ?_)
    ·refine lk b6v (a2l F R.enter0 (l.mono ((i.le.trans f.le).trans k.le)) (o.mono ((i.le.trans f.le).trans k.le)) q G aa) ?_
     rintro cb cc ⟨cd,ce,cf,cg,rfl,x,aB⟩
     have S:=(R.c0 x).t1
     refine P0 ⟨S.hasK ((f.le.trans k.le).trans x.le),S.hasObj m0⟩ (jv 15 u (q9 underlying37 u aB) (j2 16 17 u u ?_ ?_))
     ·refine lk b6u (a2i F S.enter0 D.rn ab aA (l.mono i.le).rn aB.rn H) ?_
      rintro ch cj ⟨bj,rfl,T,bk,bl⟩
      have aC:=(S.c0 T).t1
      refine P0 ⟨aC.hasK (((f.le.trans k.le).trans x.le).trans T.le),aC.hasObj m0⟩ (j1 17 u (al V4 aC fun aR ck bm=>?_))
      have aD:SH _ _ _ _ _ [s7 aR [V6 0,V6 0] 50,_]:=bm
      refine P0 ⟨aD.hasK (((f.le.trans k.le).trans x.le).trans T.le),aD.hasObj m1⟩ (j1 18 u (lw [V6 s.Up,V6 s.Down] V4 aD fun cl aE=>(P0 ⟨aE.hasK (((f.le.trans k.le).trans x.le).trans T.le),aE.hasObj m1⟩ (jd ?_))))
      cases oi I
      exact qd ⟨aR,bj,u,aE.s,(((f.le.trans k.le).trans x.le).trans T.le),bk,bl⟩
     refine al V4 S fun aS cm bn=>?_
     have ac:SH _ _ _ _ _ [s7 aS [V6 0,V6 0] 50,_]:=bn
     refine P0 ⟨ac.hasK ((f.le.trans k.le).trans x.le),ac.hasObj m1⟩ (j1 16 u (lk b6u (a2i F ac.enter0 D.rn ab aA (l.mono i.le).rn aB.rn H) ?_))
     rintro cn cp ⟨bo,rfl,ad,bp,bq⟩
     have aF:=(ac.c0 ad).t2
     refine P0 ⟨aF.hasK (((f.le.trans k.le).trans x.le).trans ad.le),aF.hasObj m1⟩ (j1 18 u (lw [V6 s.Up,V6 s.Down] V4 aF fun cq aG=>(P0 ⟨aG.hasK (((f.le.trans k.le).trans x.le).trans ad.le),aG.hasObj m1⟩ (jd ?_))))
     cases oi I
     exact qd ⟨aS,bo,u,aG.s,(((f.le.trans k.le).trans x.le).trans ad.le),bp,bq⟩
    refine al V4 R fun aT cr br=>?_
    have ae:SH _ _ _ _ _ [s7 aT [V6 0,V6 0] 50,_]:=br
    refine P0 ⟨ae.hasK (f.le.trans k.le),ae.hasObj m1⟩ (j1 14 u (lk b6v (a2l F ae.enter0 (l.mono ((i.le.trans f.le).trans k.le)) (o.mono ((i.le.trans f.le).trans k.le)) q G aa) ?_))
    rintro cs ct ⟨cu,cv,cw,cx,rfl,U,aU⟩
    have af:=(ae.c0 U).t2
    refine P0 ⟨af.hasK ((f.le.trans k.le).trans U.le),af.hasObj m1⟩ (jv 15 u (q9 underlying37 u aU) (j1 16 u (lk b6u (a2i F af.enter0 D.rn ab aA (l.mono i.le).rn aU.rn H) ?_)))
    rintro cy cz ⟨bs,rfl,ag,bu,bv⟩
    have aH:=(af.c0 ag).t2
    refine P0 ⟨aH.hasK (((f.le.trans k.le).trans U.le).trans ag.le),aH.hasObj m1⟩ (j1 18 u (lw [V6 s.Up,V6 s.Down] V4 aH fun cA aI=>(P0 ⟨aI.hasK (((f.le.trans k.le).trans U.le).trans ag.le),aI.hasObj m1⟩ (jd ?_))))
    cases oi I
    exact qd ⟨aT,bs,u,aI.s,(((f.le.trans k.le).trans U.le).trans ag.le),bu,bv⟩
   refine al V4 O fun aV cB bz=>?_
   have ah:SH _ _ _ _ _ [s7 aV [V6 0,V6 0] 50,_]:=bz
   refine P0 ⟨ah.hasK f.le,ah.hasObj m1⟩ (j1 7 u (lk c1D (a4W F ah.enter0 (l.mono (i.le.trans f.le)) (o.mono (i.le.trans f.le)) q az) ?_))
   rintro cC cD ⟨cE,rfl,y,bA⟩
   have ai:=(ah.c0 y).t2
   refine P0 ⟨ai.hasK (f.le.trans y.le),ai.hasObj m1⟩ (j1 14 u (lk b6v (a2l F ai.enter0 (l.mono ((i.le.trans f.le).trans y.le)) (o.mono ((i.le.trans f.le).trans y.le)) q G aa) ?_))
   rintro cF cG ⟨cH,cI,cJ,cK,rfl,V,aW⟩
   have aj:=(ai.c0 V).t2
   refine P0 ⟨aj.hasK ((f.le.trans y.le).trans V.le),aj.hasObj m1⟩ (jv 15 u (q9 underlying37 u aW) (j1 16 u (lk b6u (a2i F aj.enter0 D.rn ab bA (l.mono i.le).rn aW.rn H) ?_)))
   rintro cL cM ⟨bB,rfl,ak,bC,bD⟩
   have aJ:=(aj.c0 ak).t2
   refine P0 ⟨aJ.hasK (((f.le.trans y.le).trans V.le).trans ak.le),aJ.hasObj m1⟩ (j1 18 u (lw [V6 s.Up,V6 s.Down] V4 aJ fun cN aK=>(P0 ⟨aK.hasK (((f.le.trans y.le).trans V.le).trans ak.le),aK.hasObj m1⟩ (jd ?_))))
   cases oi I
   exact qd ⟨aV,bB,u,aK.s,(((f.le.trans y.le).trans V.le).trans ak.le),bC,bD⟩
  refine al V4 J fun aX cO bE=>?_
  have am:SH _ _ _ _ _ [s7 aX [V6 0,V6 0] 50,_]:=bE
  refine P0 ⟨am.hasK kr,am.hasObj m1⟩ (j1 4 u (lk c3X (a8B F am.enter0 (l.mono i.le) (o.mono i.le) q ar aQ) ?_))
  rintro cP cQ ⟨cR,rfl,m,bF⟩
  have an:=(am.c0 m).t2
  refine P0 ⟨an.hasK m.le,an.hasObj m1⟩ (j1 7 u (lk c1D (a4W F an.enter0 (l.mono (i.le.trans m.le)) (o.mono (i.le.trans m.le)) q az) ?_))
  rintro cS cT ⟨cU,rfl,C,bG⟩
  have ao:=(an.c0 C).t2
  refine P0 ⟨ao.hasK (m.le.trans C.le),ao.hasObj m1⟩ (j1 14 u (lk b6v (a2l F ao.enter0 (l.mono ((i.le.trans m.le).trans C.le)) (o.mono ((i.le.trans m.le).trans C.le)) q G aa) ?_))
  rintro cV cW ⟨cX,cY,cZ,da,rfl,W,aY⟩
  have ap:=(ao.c0 W).t2
  refine P0 ⟨ap.hasK ((m.le.trans C.le).trans W.le),ap.hasObj m1⟩ (jv 15 u (q9 underlying37 u aY) (j1 16 u (lk b6u (a2i F ap.enter0 D.rn bF bG (l.mono i.le).rn aY.rn H) ?_)))
  rintro db dc ⟨bH,rfl,aq,bI,bJ⟩
  have aL:=(ap.c0 aq).t2
  refine P0 ⟨aL.hasK (((m.le.trans C.le).trans W.le).trans aq.le),aL.hasObj m1⟩ (j1 18 u (lw [V6 s.Up,V6 s.Down] V4 aL fun dd aM=>(P0 ⟨aM.hasK (((m.le.trans C.le).trans W.le).trans aq.le),aM.hasObj m1⟩ (jd ?_))))
  cases oi I
  exact qd ⟨aX,bH,u,aM.s,(((m.le.trans C.le).trans W.le).trans aq.le),bI,bJ⟩
 rintro _ de ⟨ay,Y,rfl,aN,df,dg,dh⟩
 refine qr (fl b5J u E6 m0 aN u (lv (U4 u u) (fl b1k u E6 m0 aN u ?_)))
 obtain⟨di,aZ,bK⟩:=ob bf
 refine lv (a4D u u aZ) (av u (nq (j9 ?_)))
 cases oi bK
 exact ey results130 ⟨Y,u,aN.s,(a32 aZ)⟩
end Go.Proofs.YtnloenhmkdpgeaaGreatDoor
