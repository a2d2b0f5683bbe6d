/-
 Walks of the functions. Printed by gen.py.
-/
import Derived.Test.YtpdfkjjmcnhakaaGreatDoorFacts
set_option linter.unusedVariables false
set_option linter.unusedSectionVars false
set_option maxRecDepth 100000
namespace Go.Proofs.YtpdfkjjmcnhakaaGreatDoor
set_option maxHeartbeats 4000000
open Go Go.Fk Go.RowKit Tryz
variable (F:Nat){w:World}{K:C7}{Z:List Nat}{g1 g2 g3:Nat}{A B C D G H I J O R S T:Option Addr}{a b c d f i k l m n o p q s v x y aa ab ac ad ae af ag:Nat}
variable [dr:Dr]

theorem a5c {q0:List l3}{q1:l3}{r:(List l3)}(hS:SH w K Z w K [tail (V3 A a b) 9 1])(f:b7 B3 K A a b q0)(T:q1.length≤maxLen)(hm:Q1 F q0 q1=some r):
  Calls prog 187 #[V3 A a b,sv q1] w fun e w'=>∃a_1 n_2 c_3 K',e= .returned (V3 a_1 n_2 c_3)∧SH w K Z w' K' [tail (V3 a_1 n_2 c_3) 9 1]∧b7 B3 K' a_1 n_2 c_3 r:=by
 rw [Q1] at hm
 refine ci func187 u ntmps187 (sr (lv (r_n u) (nr (lv (R1 u) (ns ?_)))))
 obtain⟨m,U,V⟩:=ob hm
 refine j9 (IW w K Z K [(0,V3 A a b),(1,sv q1),(5,V6 m)] [tail (V3 A a b) 9 1] (j5 m)) ?_ ?_
 ·refine i7 ?_
  obtain⟨bg,W,X⟩:=ob U
  refine qw (fun (k:Int)=>IW w K Z K [(0,V3 A a b),(1,sv q1),(5,V6 k)] [tail (V3 A a b) 9 1] (j5 k)) W ⟨K,u,hS,kr,R3⟩ ?_
  rintro k _ bh bi Y aa ⟨o,rfl,q,l,ab⟩
  refine n9 (n9 ?_)
  obtain⟨ac,ad,ae⟩:=ob Y
  refine j9 (IV w K Z o [(0,V3 A a b),(1,sv q1),(5,V6 k),(18,.bool ac)] [tail (V3 A a b) 9 1]) ?_ ?_
  ·refine j3 (mv u (mv u (lv (p7 underlying22 u (f.mono l)) (lv (o4 u u) (mv u (bt ad (fun c s=>?_) (fun c s=>?_)))))))
   ·refine lg c (i4 u) (lg c (i4 u) ?_)
    obtain⟨af,ag,ah⟩:=ob s
    refine Q8 (t:=B3) (wg u u c) u underlying22 D8 u u (f.mono l) ag fun ai aj bj ak al=>?_
    obtain⟨rfl,bk⟩:=ak
    have am:D7 _ ai aj [sv af]:=al
    refine lg c (z2 D8 u q (am 0 _ u)) (lg c (i4 u) (lg c (b3Y u u) (lv (q8 u c u) (i5 ?_))))
    cases oi ah
    exact qd ⟨o,u,q,kr⟩
   iterate 6 refine lu c ?_
   refine lv (X8 u c u) (i5 ?_)
   cases oi s
   exact qd ⟨o,u,q,kr⟩
  rintro _ bl ⟨H,rfl,I,J⟩
  refine l4 (D0 ae u (fun an x=>?_) (fun an x=>?_))
  ·refine i8 (l4 (i7 (j3 (mv u (lv (u6 u u) (av u (nb ?_)))))))
   cases oi x
   exact qd ⟨_,u,H,u,I,(l.trans J),(s6 _)⟩
  refine p9 (c9 (c9 ?_))
  cases oi x
  cases aa _ u
  refine j7 ?_
  cases oi X
  exact qd ⟨H,u,I,(l.trans J),ab⟩
 rintro _ bm ⟨y,rfl,B,i,bn⟩
 refine qs (n9 ?_)
 obtain⟨ao,ap,aq⟩:=ob V
 refine j9 (IV w K Z y [(0,V3 A a b),(1,sv q1),(5,V6 m),(32,.bool ao)] [tail (V3 A a b) 9 1]) ?_ ?_
 ·refine j3 (mv u (mv u (lv (p7 underlying22 u (f.mono i)) (lv (o4 u u) (mv u (bt ap (fun d C=>?_) (fun d C=>?_)))))))
  ·refine lg d (i4 u) (lg d (i4 u) ?_)
   obtain⟨ar,au,aw⟩:=ob C
   refine Q8 (t:=B3) (wg u u d) u underlying22 D8 u u (f.mono i) au fun ax ay bo az aA=>?_
   obtain⟨rfl,bp⟩:=az
   have aB:D7 _ ax ay [sv ar]:=aA
   refine lg d (z2 D8 u B (aB 0 _ u)) (lg d (i4 u) (lg d (J4 u u) (lv (q8 u d u) (i5 ?_))))
   cases oi aw
   exact qd ⟨y,u,B,kr⟩
  iterate 6 refine lu d ?_
  refine lv (X8 u d u) (i5 ?_)
  cases oi C
  exact qd ⟨y,u,B,kr⟩
 rintro _ bq ⟨aC,rfl,O,D⟩
 refine l4 (D0 aq u (fun aD G=>?_) (fun aD G=>?_))
 ·refine sr (mv u (av u (nq (rr ?_))))
  cases oi G
  exact ey results187 ⟨A,a,b,aC,u,O,(f.mono (i.trans D))⟩
 refine i8 (qr (b0 B3 underlying22 D8 O fun br bs bu R aE aF=>(mv u (mv u ?_))))
 obtain⟨bv,aG,aH⟩:=ob G
 refine a7X (t:=B3) wn u underlying22 D8 u u (f.mono ((i.trans D).trans R)) aG fun bx bz bA aI=>?_
 obtain⟨bB,aJ,aK⟩:=ob aH
 refine lp underlying22 D8 aE aI aJ aF fun bC bD bE bF bG aL aM aN=>(av u (nr (mv u (mv u (lb B3 (sv q1) [sv q1] q1 underlying22 D8 ⟨u,T⟩ aN fun bH bI bJ S aO aP=>?_)))))
 obtain⟨bK,aQ,aR⟩:=ob aK
 refine lp underlying22 D8 (aM.mono S) aO aQ aP.f1 fun bL bM bN bO bP aS aT aU=>(av u (nr (mv u (mv u (mv u ?_)))))
 obtain⟨bQ,aV,aW⟩:=ob aR
 refine a6r (t:=B3) wn u underlying22 D8 u u (b7.mono (((((i.trans D).trans R).trans aL).trans S).trans aS) f) aV fun bR bS bT aX=>?_
 obtain⟨bU,aY,aZ⟩:=ob aW
 refine lp underlying22 D8 aT aX aY aU fun ba bb bc bV bd bW be bf=>(av u (nq (l7 ?_)))
 cases oi aZ
 exact ey results187 ⟨ba,bb,bc,bd,u,bf.s,be⟩

theorem a7F {q0:List u1}{r:(List l3)}(hS:SH w K [] w K [])(S:b7 E5 K A a b q0)(hm:Z1 F q0=some r):
  Calls prog 140 #[V3 A a b] w fun e w'=>∃a_1 n_2 c_3 K',e= .returned (V3 a_1 n_2 c_3)∧SH w K [] w' K' [tail (V3 a_1 n_2 c_3) 9 1]∧b7 B3 K' a_1 n_2 c_3 r:=by
 rw [Z1] at hm
 refine ci func140 u ntmps140 (sr (lv (r_n u) (nr (b0 B3 underlying22 D8 hS fun a5 w6 T U ae af=>(av u (Q9 (lv (R1 u) (nq ?_))))))))
 obtain⟨ag,ah,ai⟩:=ob hm
 refine j9 (fun E' w'=>∃m o q s,E'=[(3,V3 m o q)]∧SH w K [] w' s [tail (V3 m o q) 9 1]∧H7 T s∧b7 B3 s m o q ag) ?_ ?_
 ·refine i7 ?_
  obtain⟨bC,aj,ak⟩:=ob ah
  refine qw (fun (d:(List l3)×Int) E' w'=>∃f i k c,E'=[(0,V3 A a b),(3,V3 f i k),(4,V6 d.2)]∧SH w K [] w' c [tail (V3 f i k) 9 1]∧H7 T c∧b7 B3 c f i k d.1∧j5 d.2) aj ⟨a5,0,0,T,u,af,kr,ae,R3⟩ ?_
  rintro d _ bD bE al am ⟨f,i,k,c,rfl,X,x,Y,bF⟩
  refine n9 (sr (mv u (mv u (lv (p7 underlying40 u (S.mono (U.trans x))) (lv (o4 u u) (nq (D0 al u (fun an V=>?_) (fun an V=>?_))))))))
  ·refine i8 (qs (i7 (sr (lv (R1 u) (nq ?_)))))
   obtain⟨ao,ap,aq⟩:=ob V
   refine j9 (fun E' w'=>∃y B C D,E'=[(0,V3 A a b),(3,V3 y B C),(4,V6 d.2)]∧SH w K [] w' D [tail (V3 y B C) 9 1]∧H7 c D∧b7 B3 D y B C ao) ?_ ?_
   ·refine i7 ?_
    obtain⟨bG,ar,au⟩:=ob ap
    refine qw (fun (O:(List l3)×Int) E' w'=>∃G H I J,E'=[(0,V3 A a b),(3,V3 G H I),(4,V6 d.2),(5,V6 O.2)]∧SH w K [] w' J [tail (V3 G H I) 9 1]∧H7 c J∧b7 B3 J G H I O.1∧j5 O.2) ar ⟨f,i,k,c,u,X,kr,Y,R3⟩ ?_
    rintro O _ bH bI aw ax ⟨G,H,I,J,rfl,l,R,aa,bJ⟩
    refine n9 (sr (mv u (mv u (mv u ?_))))
    obtain⟨ay,az,aA⟩:=ob aw
    refine li underlying40 C8 (S.mono ((U.trans x).trans R)) az fun aB aC bK aD aE=>?_
    obtain⟨aF,aG,aH,aI,aJ,aK,rfl,bL,aL,bM⟩:=aD
    have aM:D7 _ aB aC [V6 ay.Id,V3 aF aG aH,V3 aI aJ aK]:=aE
    refine fa S7 u (lv (z2 a3p u l (aM 1 _ u)) (lv (p7 underlying61 u aL) (lv (o4 u u) (nq (D0 aA u (fun aN W=>?_) (fun aN W=>?_))))))
    ·refine i8 (qs (i7 (j3 (mv u (mv u (mv u ?_))))))
     obtain⟨aO,aP,aQ⟩:=ob W
     refine li underlying40 C8 (S.mono ((U.trans x).trans R)) aP fun aR aS bN aT aU=>?_
     obtain⟨aV,aW,aX,aY,aZ,ba,rfl,bO,bb,bP⟩:=aT
     have bc:D7 _ aR aS [V6 aO.Id,V3 aV aW aX,V3 aY aZ ba]:=aU
     refine fa S7 u (lv (z2 a3p u l (bc 1 _ u)) (mv u ?_))
     obtain⟨ab,bd,be⟩:=ob aQ
     refine li underlying61 J6 bb bd fun bf bg bQ bh bi=>?_
     obtain⟨rfl,bj,bR⟩:=bh
     have bk:D7 _ bf bg [sv ab.Name,sv ab.Text]:=bi
     refine fa a1E u (lv (z2 D8 u l (bk 0 _ u)) ?_)
     obtain⟨bS,bl,bm⟩:=ob be
     refine lk b70 (a5c F l.e1 aa bj bl) ?_
     rintro bT bU ⟨bn,bo,bp,bq,rfl,ac,br⟩
     have bs:=(l.c1 ac).t1
     refine av u (nb (l4 (j3 (mv u (lv (u6 u u) (av u (i5 ?_)))))))
     cases oi bm
     exact qd ⟨_,u,bn,bo,bp,bq,u,bs,(R.trans ac.le),br,(s6 _)⟩
    refine p9 (c9 (c9 ?_))
    cases oi W
    cases ax _ u
    refine j7 ?_
    cases oi au
    exact qd ⟨G,H,I,J,u,l,R,aa⟩
   rintro _ bV ⟨y,B,C,D,rfl,bu,bv,bx⟩
   refine q7 (l4 (j3 (mv u (lv (u6 u u) (av u (i5 ?_))))))
   cases oi aq
   exact qd ⟨_,u,y,B,C,D,u,bu,(x.trans bv),bx,(s6 _)⟩
  refine p9 (c9 (c9 ?_))
  cases oi V
  cases am _ u
  refine j7 ?_
  cases oi ak
  exact qd ⟨f,i,k,c,u,X,x,Y⟩
 rintro _ bW ⟨m,o,q,s,rfl,bz,bX,bA⟩
 refine qr (mv u (av u (nq (l7 ?_))))
 cases oi ai
 exact ey results140 ⟨m,o,q,s,u,bz,bA⟩

theorem a6a {q0:u1}{r:u1}(hS:SH w K [] w K [])(G:j5 q0.Id)(H:b7 F8 K A a b q0.Fields)(I:b7 H5 K B c d q0.Nums)(hm:a0e F q0=some r):
  Calls prog 143 #[.agg #[V6 q0.Id,V3 A a b,V3 B c d]] w fun e w'=>∃a_2 n_3 c_4 a_6 n_7 c_8 K',e= .returned (.agg #[V6 r.Id,V3 a_2 n_3 c_4,V3 a_6 n_7 c_8])∧SH w K [] w' K' [tail (V3 a_2 n_3 c_4) 118 2,tail (V3 a_6 n_7 c_8) 135 2]∧j5 r.Id∧b7 F8 K' a_2 n_3 c_4 r.Fields∧b7 H5 K' a_6 n_7 c_8 r.Nums:=by
 rw [a0e] at hm
 refine ci func143 u ntmps143 (sr (bx u hS fun aC aX aE=>?_))
 have aF:SH _ _ _ _ _ [r5 aC [V6 q0.Id,V3 A a b,V3 B c d] 64]:=aE
 refine al C8 aF fun aG aY aH=>?_
 have aI:SH _ _ _ _ _ [r5 aG [V6 0,V3 none 0 0,V3 none 0 0] 64,_]:=aH
 refine ns ?_
 obtain⟨aZ,J,aJ⟩:=ob hm
 obtain⟨ba,O,R⟩:=ob aJ
 have v:=aI.drew
 refine j_0 (fun w'=>F0 K w'∧A4 aC [V6 q0.Id,V3 A a b,V3 B c d] w') 12 [] mixed ⟨v.hasK kr,v.hasObj m1⟩ (jv 0 u (c7 T9 u) (jh 1 u (fun _ h=>z8 G4 u u h.2) (jv 3 u (c7 S7 u) (jh 4 u (fun _ h=>z8 a3p u u h.2) (jv 7 u (c7 a0r u) (jh 8 u (fun _ h=>z8 a43 u u h.2) (j2 2 6 u u ?_ ?_)))))))
 ·refine b0 F8 underlying61 J6 v fun bb bc bd f aD x=>(j_o ⟨x.hasK f,x.hasObj m2⟩ (j2 5 6 u u ?_ ?_))
  ·refine lp underlying61 J6 aD (H.mono f) J x fun S T U be bf m aK V=>(j_o ⟨V.hasK (f.trans m),V.hasObj m2⟩ (j1 6 u (b0 H5 underlying62 P0 V fun bg bh bi o aL W=>(j_o ⟨W.hasK ((f.trans m).trans o),W.hasObj m3⟩ (j1 9 u (lp underlying62 P0 aL (I.mono ((f.trans m).trans o)) O W fun X Y aa bj aM ab aN ac=>(j_o ⟨ac.hasK (((f.trans m).trans o).trans ab),ac.hasObj m3⟩ (jv 10 u (C4 (cs:=#[V6 q0.Id,V3 S T U,V3 X Y aa]) b15 C8 u (by kernel_rfl)) (j1 11 u ?_)))))))))
   refine lw [V6 q0.Id,V3 S T U,V3 X Y aa] C8 ac.f2 fun bk y=>(j_o ⟨y.hasK (((f.trans m).trans o).trans ab),y.hasObj m3⟩ (jd (l4 (l7 ?_))))
   cases oi R
   exact ez results143 C8 y m0 ⟨S,T,U,X,Y,aa,aM,u,y.f1.f2.s,G,(aK.mono (o.trans ab)),aN⟩
  refine b0 H5 underlying62 P0 x fun bl bm bn i aO ad=>(j_o ⟨ad.hasK (f.trans i),ad.hasObj m3⟩ (j1 5 u (lp underlying61 J6 (aD.mono i) (H.mono (f.trans i)) J ad.f1 fun ae af ag bo bp q aP ah=>(j_o ⟨ah.hasK ((f.trans i).trans q),ah.hasObj m3⟩ (j1 9 u (lp underlying62 P0 (aO.mono q) (I.mono ((f.trans i).trans q)) O ah.f1 fun ai aj ak bq aQ am aR an=>(j_o ⟨an.hasK (((f.trans i).trans q).trans am),an.hasObj m3⟩ (jv 10 u (C4 (cs:=#[V6 q0.Id,V3 ae af ag,V3 ai aj ak]) b15 C8 u (by kernel_rfl)) (j1 11 u ?_)))))))))
  refine lw [V6 q0.Id,V3 ae af ag,V3 ai aj ak] C8 an.f2 fun br C=>(j_o ⟨C.hasK (((f.trans i).trans q).trans am),C.hasObj m3⟩ (jd (l4 (l7 ?_))))
  cases oi R
  exact ez results143 C8 C m0 ⟨ae,af,ag,ai,aj,ak,aQ,u,C.f1.f2.s,G,(aP.mono am),aR⟩
 refine b0 H5 underlying62 P0 v fun bs bu bv k aS ao=>(j_o ⟨ao.hasK k,ao.hasObj m2⟩ (j1 2 u (b0 F8 underlying61 J6 ao fun bz bA bB l aT ap=>(j_o ⟨ap.hasK (k.trans l),ap.hasObj m3⟩ (j1 5 u (lp underlying61 J6 aT (H.mono (k.trans l)) J ap fun aq ar au bC bD s aU aw=>(j_o ⟨aw.hasK ((k.trans l).trans s),aw.hasObj m3⟩ (j1 9 u (lp underlying62 P0 (aS.mono (l.trans s)) (I.mono ((k.trans l).trans s)) O aw.f1 fun ax ay az bE aV aA aW aB=>?_)))))))))
 refine j_o ⟨aB.hasK (((k.trans l).trans s).trans aA),aB.hasObj m3⟩ (jv 10 u (C4 (cs:=#[V6 q0.Id,V3 aq ar au,V3 ax ay az]) b15 C8 u (by kernel_rfl)) (j1 11 u (lw [V6 q0.Id,V3 aq ar au,V3 ax ay az] C8 aB.f2 fun bF D=>(j_o ⟨D.hasK (((k.trans l).trans s).trans aA),D.hasObj m3⟩ (jd (l4 (l7 ?_)))))))
 cases oi R
 exact ez results143 C8 D m0 ⟨aq,ar,au,ax,ay,az,aV,u,D.f1.f2.s,G,(aU.mono aA),aW⟩

theorem a54 {q0:v8}{q1:l3}{q2:w8}{r:Bool}(hS:SH w K Z w K [r5 c [sv q1] 9,r5 d [sv q2.Text,V6 q2.At] 104])(o:q0.Field.length≤maxLen)(q:q0.Term.length≤maxLen)(s:b7 P8 K A a b q0.Posts)(x:q1.length≤maxLen)(y:q2.Text.length≤maxLen)(B:j5 q2.At)(hm:a0b F q0 q1 q2=some r):
  Calls prog 135 #[.agg #[sv q0.Field,sv q0.Term,V3 A a b],.pointer (some ⟨c,0,none⟩),.pointer (some ⟨d,0,none⟩)] w fun e w'=>∃K',e= .returned (.bool r)∧SH w K Z w' K' [r5 c [sv q1] 9,r5 d [sv q2.Text,V6 q2.At] 104]:=by
 rw [a0b] at hm
 refine ci func135 u ntmps135 (sr (bx u hS fun l C m=>?_))
 have i:SH _ _ _ _ _ [r5 l [sv q0.Field,sv q0.Term,V3 A a b] 97,_,_]:=m
 refine lv (M7 u) (nr (fl a3B u D8 m0 i u (lv (x8 D8 u m1 i u) (lv (J4 u u) (mv u (bt hm (fun f k=>?_) (fun f k=>?_)))))))
 ·refine lg f (c7 a2P u) (lg f (x8 D8 u m0 i u) (lg f (c7 a0h u) (lg f (x8 D8 u m2 i u) (lg f (J4 u u) (lv (q8 u f u) (av u (nq (l7 ?_))))))))
  cases oi k
  exact ey results135 ⟨K,u,i.s⟩
 iterate 5 refine lu f ?_
 refine lv (X8 u f u) (av u (nq (l7 ?_)))
 cases oi k
 exact ey results135 ⟨K,u,i.s⟩

theorem W0 {q0:List v8}{q1c0:l3}{q1c1:w8}{r:Int}(hS:SH w K Z w K [r5 c [sv q1c0] 9,r5 d [sv q1c1.Text,V6 q1c1.At] 104])(f:b7 B4 K A a b q0)(O:q1c0.length≤maxLen)(R:q1c1.Text.length≤maxLen)(S:j5 q1c1.At)(hm:C2 F q0 q1c0 q1c1=some r):
  Calls prog 134 #[V3 A a b,.func (.func 135) #[] #[.pointer (some ⟨c,0,none⟩),.pointer (some ⟨d,0,none⟩)]] w fun e w'=>∃K',e= .returned (V6 r)∧SH w K Z w' K' [r5 c [sv q1c0] 9,r5 d [sv q1c1.Text,V6 q1c1.At] 104]∧j5 r:=by
 rw [C2] at hm
 refine ci func134 u ntmps134 (sr (lv (R1 u) (Q9 (mv u (lv (p7 underlying41 u f) (lv (r_m u) (nq ?_)))))))
 obtain⟨T,U,i⟩:=ob hm
 refine j9 (IE T w K Z K [] [r5 c [sv q1c0] 9,r5 d [sv q1c1.Text,V6 q1c1.At] 104]) ?_ ?_
 ·refine i7 ?_
  obtain⟨aq,V,q⟩:=ob U
  refine qf (fun (s:Nat) (x:Unit)=>IV w K Z K [(0,V3 A a b),(1,.func (.func 135) #[] #[pt c,pt d]),(7,V6 (q0.length:Int)),(8,V6 ((s:Nat):Int))] [r5 c [sv q1c0] 9,r5 d [sv q1c1.Text,V6 q1c1.At] 104]) V ⟨K,u,hS,kr⟩ ?_ ?_
  ·rintro s x _ W ar hi29 X Y ⟨y,rfl,k,l⟩
   refine sr (lv (o4 u u) (ns (y5 u (b8 (by omega)) (i8 (l4 (n9 (i7 (sr (mv u (av u (nr (mv u ?_))))))))))))
   refine mv u (mv u ?_)
   obtain⟨m,aa,ab⟩:=ob X
   refine li underlying41 P9 (f.mono l) aa fun ac ad au ae af=>?_
   obtain⟨B,C,D,rfl,ag,ah,ai⟩:=ae
   have aj:D7 _ ac ad [sv m.Field,sv m.Term,V3 B C D]:=af
   refine lv (C9 P9 u k aj u) ?_
   obtain⟨aw,ak,al⟩:=ob ab
   have G:=k.f1.f1
   refine A7 wn u (a8T (vs:=[.agg #[sv m.Field,sv m.Term,V3 B C D]]) (cap:=#[pt c,pt d]) b9n u u) (a54 F G.e2 ag ah ai O R S ak) ?_
   rintro ax ay ⟨H,rfl,I⟩
   refine⟨_,u,?_⟩
   have J:=(G.c2 I).t2
   refine nq (D0 al u (fun am o=>?_) (fun am o=>?_))
   ·refine sr (mv u (av u (nq (l7 (j4 (g6 (g6 ?_)))))))
    cases oi o
    cases Y _ u
    refine j4 (g6 ?_)
    cases oi q
    refine g6 ?_
    cases oi i
    exact ey results134 ⟨H,u,J,(b0L hi29 (b7.max f))⟩
   refine i8 (q7 (qg (lv (u3 u u (x9 hi29 (b7.max f))) (mv u (i5 ?_)))))
   cases oi o
   exact qd ⟨_,u,H,u,J,(l.trans I.le)⟩
  rintro x _ W an ⟨y,rfl,k,l⟩
  subst an
  refine sr (lv (o4 u u) (ns (y4 u (c6 (by omega)) (p9 (c9 (c9 (j7 ?_)))))))
  cases oi q
  exact I6 ⟨_,y,u,u,k,l⟩ trivial
 rintro _ az ⟨aA,ao,rfl,rfl,ap,aB⟩
 have i:=D9 i
 refine qr (lv (r4 (v:=V6 (-1)) u) (nq (l7 ?_)))
 cases oi i
 exact ey results134 ⟨ao,u,ap,(by decide :j5 (-1))⟩

theorem a7v {g:Nat}{a:Option Addr}{n:Nat}{c:Nat}{lay:List E6}{q0:A2}{q1:l3}{q2:w8}{q3:Int}{r:A2}(aJ:SH w K (List.flatMap B8.gs [r5 g [V3 A b d,V3 a n c] 43,a4s (I1 97 153 3 a n c lay)]) w K [r5 g [V3 A b d,V3 a n c] 43,a4s (I1 97 153 3 a n c lay)])(aK:b7 E5 K A b d q0.Docs)(U:a3O lay q0.Entries)(ap:q1.length≤maxLen)(aq:q2.Text.length≤maxLen)(ag:j5 q2.At)(aL:j5 q3)(hm:Y3 F q0 q1 q2 q3=some r):
  Calls prog 87 #[.pointer (some ⟨g,0,none⟩),sv q1,.agg #[sv q2.Text,V6 q2.At],V6 q3] w fun e w'=>∃a_1 n_2 c_3 a_4 n_5 c_6 lay_7 K',e= .returned (.tuple #[])∧SH w K (List.flatMap B8.gs [r5 g [V3 A b d,V3 a n c] 43,a4s (I1 97 153 3 a n c lay)]) w' K' [r5 g [V3 a_1 n_2 c_3,V3 a_4 n_5 c_6] 43,a4s (I1 97 153 3 a_4 n_5 c_6 lay_7)]∧b7 E5 K' a_1 n_2 c_3 r.Docs∧a3O lay_7 r.Entries:=by
 rw [Y3] at hm
 obtain⟨k,aM,h1⟩:=ob hm
 obtain⟨es,B,h2⟩:=ob h1
 obtain⟨en,ar,h3⟩:=ob h2
 obtain⟨ps,C,h4⟩:=ob h3
 obtain⟨p,ah,h5⟩:=ob h4
 obtain⟨at_,V,h6⟩:=ob h5
 cases oi h6
 have aT:SH w K (List.flatMap B8.gs [r5 g [V3 A b d,V3 a n c] 43,a4s (I1 97 153 3 a n c lay)]) w K (U6 97 a n c lay::((lay).flatMap (E6.items 153 3)++[r5 g [V3 A b d,V3 a n c] 43])):=(aJ.perm (List.Perm.swap _ _ _)).unpack
 have aU:SH w K (List.flatMap B8.gs [r5 g [V3 A b d,V3 a n c] 43,a4s (I1 97 153 3 a n c lay)]) w K (r5 g [V3 A b d,V3 a n c] 43::U6 97 a n c lay::(lay).flatMap (E6.items 153 3)):=aT.perm (by rw [←List.cons_append];exact List.perm_append_singleton _ _ |>.symm)
 generalize hMM:(List.flatMap B8.gs [r5 g [V3 A b d,V3 a n c] 43,a4s (I1 97 153 3 a n c lay)])=MM at *
 refine ci func87 rfl ntmps87 (sr (bx rfl aU fun i w5 hS3'=>?_))
 have aW:SH w K MM w5 K (r5 i [sv q1] 9::r5 g [V3 A b d,V3 a n c] 43::U6 97 a n c lay::(lay).flatMap (E6.items 153 3)):=hS3'
 refine bx rfl aW fun f w6 hS4'=>?_
 have au:SH w K MM w6 K (r5 f [sv q2.Text,V6 q2.At] 104::r5 i [sv q1] 9::r5 g [V3 A b d,V3 a n c] 43::U6 97 a n c lay::(lay).flatMap (E6.items 153 3)):=hS4'
 refine nr (mv rfl (lv (u7 rfl) (fl P7 rfl a2A m2 au rfl (lv (b1T (vs:=[pt i,pt f]) rfl) ?_))))
 obtain⟨gs,hgs⟩: ∃gs,gs=(U6 97 a n c lay::(lay).flatMap (E6.items 153 3)).flatMap B8.gs:=⟨_,rfl⟩
 have s:SH w K MM w6 K ([r5 i [sv q1] 9,r5 f [sv q2.Text,V6 q2.At] 104]++(r5 g [V3 A b d,V3 a n c] 43::U6 97 a n c lay::(lay).flatMap (E6.items 153 3))):=au.perm (List.Perm.swap _ _ _)
 have hnd:=s.nodup
 rw [List.flatMap_append,List.nodup_append,List.flatMap_cons] at hnd
 have hg56:i∉gs∧f∉gs:=by
  rw [hgs]
  exact⟨fun hb=>hnd.2.2 i (by simp [r5,Go.Fk.one]) i (List.mem_append_right _ hb) rfl,fun hb=>hnd.2.2 f (by simp [r5,Go.Fk.one]) f (List.mem_append_right _ hb) rfl⟩
 have hseg:=b6p (TE:=97) (TP:=153) (TI:=3) (gs:=gs) s (fun it hi=>List.mem_append_right _ (List.mem_cons_of_mem _ hi)) (fun it hi b hb=>by rw [hgs];exact List.mem_flatMap.2 ⟨it,hi,hb⟩) U
 have hlnd:=s.lend (Kin:=a6Q K w6 gs) (a92 s.holds) (fun it hi=>by
  rcases List.mem_cons.1 hi with rfl | hi
  ·exact b3E (s.items _ (List.mem_cons_self ..)) hg56.1
  rcases List.mem_singleton.1 hi with rfl
  exact b3E (s.items _ (List.mem_cons_of_mem _ (List.mem_cons_self ..))) hg56.2)
 refine lk b9m (W0 F hlnd hseg.1 ap aq ag aM) ?_
 rintro e7 w7 ⟨K7,rfl,hS7',bz⟩
 have aX:SH w K MM w7 K ([r5 i [sv q1] 9,r5 f [sv q2.Text,V6 q2.At] 104]++(r5 g [V3 A b d,V3 a n c] 43::U6 97 a n c lay::(lay).flatMap (E6.items 153 3))):=s.lent (a80 s.holds) hS7' rfl (fun it hi=>by
  rcases List.mem_cons.1 hi with rfl | hi
  ·exact b56 (hS7'.items _ (List.mem_cons_self ..)) ((a80 s.holds).trans hS7'.le)
  rcases List.mem_singleton.1 hi with rfl
  exact b56 (hS7'.items _ (List.mem_cons_of_mem _ (List.mem_cons_self ..))) ((a80 s.holds).trans hS7'.le))
 have aj:SH w K MM w7 K (r5 f [sv q2.Text,V6 q2.At] 104::r5 i [sv q1] 9::r5 g [V3 A b d,V3 a n c] 43::U6 97 a n c lay::(lay).flatMap (E6.items 153 3)):=aX.perm (List.Perm.swap _ _ _)
 refine av rfl (Q9 (mv rfl (lv (o4 rfl rfl) (nq (j9 (fun E' w'=>∃a2 l m lay2 D,E'=[(0,pt g),(3,V6 q3),(6,pt f),(8,V6 (cond (decide (k<0)) (q0.Entries.length:Int) k))]∧SH w K MM w' D (r5 f [sv q2.Text,V6 q2.At] 104::r5 i [sv q1] 9::r5 g [V3 A b d,V3 a2 l m] 43::U6 97 a2 l m lay2::(lay2).flatMap (E6.items 153 3))∧H7 K D∧a3O lay2 es) ?_ ?_)))))
 ·refine a0n rfl (fun hb=>?_) (fun hb=>?_)
  ·rw [hb] at B ⊢
   simp only [j6] at B ⊢
   refine sr (mv rfl (lv (u7 rfl) (fl P7 rfl a2A m2 aj rfl (lv (a3l underlying41 rfl hseg.2) (av rfl (nq ?_))))))
   have G:=aj.drew
   refine wh1 (fun w'=>F0 K w'∧A4 i [sv q1] w'∧A4 f [sv q2.Text,V6 q2.At] w') (fun w'=>A4 g [V3 A b d,V3 a n c] w') 13 [(4,10),(10,13)] mixed ⟨G.hasK kr,G.hasObj m1,G.hasObj m0⟩ (fun _=>G.hasObj (.tail _ (.tail _ (.head _)))) (gt (i4 rfl) (gt (i4 rfl) (gt (u7 rfl) (gt (c7 P7 rfl) (gf (fun _ h=>z8 a2A rfl rfl h) (gh (fun _ h=>z8 D8 rfl rfl h.2.1) (gt (c7 a0h rfl) (gh (fun _ h=>z8 D8 rfl rfl h.2.2) (gt (C4 (cs:=#[sv q1,sv q2.Text,V3 none 0 0]) b95 P9 rfl (by kernel_rfl)) ?_)))))))))
   refine gn (W7 (t:=b5e 3) (n:=1) (pv:=[(0,.agg #[sv q1,sv q2.Text,V3 none 0 0])]) (cs:=[sv q1,sv q2.Text,V3 none 0 0]) (xs:=[([sv q1,sv q2.Text,V3 none 0 0]:List Value)]) wn rfl underlying41 P9 rfl rfl rfl (by kernel_rfl) rfl rfl (a06 (t:=b5e 3) (u:=.agg #[sv q1,sv q2.Text,V3 none 0 0]) (z:=([sv q1,sv q2.Text,V3 none 0 0]:List Value)) ⟨rfl,rfl,by simp [Value.oneCell',sv]⟩ a51) G fun a9 w9 K9 W ay hS9'=>?_)
   obtain⟨b9,o9,rfl⟩:=b1P ay
   have aZ:=b3P ay
   have H:=hS9'.drop
   refine i5 (qh ⟨H.hasK W,H.hasObj m1,H.hasObj m0⟩ (fun _=>H.hasObj (.tail _ (.tail _ (.head _)))) ?_)
   unfold J5 at B
   split at B
   case isFalse=>cases B
   rename_i hbd
   cases B
   have hnl:n=q0.Entries.length:=hseg.2
   have hS9t:SH w K MM w9 K9 (N0 (V3 a n c) (lay.flatMap E6.cells) 97 3::(r5 f [sv q2.Text,V6 q2.At] 104::r5 i [sv q1] 9::r5 g [V3 A b d,V3 a n c] 43::(lay).flatMap (E6.items 153 3))):=H.perm (List.perm_middle (l₁:=[_,_,_])).symm
   refine gn ?_
   have hcl9:(lay.flatMap E6.cells).length=n*3:=by rw [a1z,←a84 hS9t (List.mem_cons_self ..)]
   refine a5C wn rfl underlying41 P9 rfl rfl rfl (by decide) rfl aZ (by simp [Value.oneCell',sv]) hcl9 (by simp at hbd;omega) (by simp at hbd;omega) hS9t fun X Y bD I=>(i5 (qh ⟨I.hasK W,I.hasObj m2,I.hasObj m1⟩ (fun _=>I.hasObj (.tail _ (.tail _ (.tail _ (.head _))))) (gt (u7 rfl) (gt (c7 P7 rfl) (gn (ls [V3 A b d,V3 (some ⟨X,0,none⟩) (n+1) Y] (V3 (some ⟨X,0,none⟩) (n+1) Y) a2A I.f3 fun ba aa=>(i5 (qh ⟨aa.hasK W,aa.hasObj m3,aa.hasObj m2⟩ (fun h=>by cases h) (gd' ?_)))))))))
   have bb:=SH.rowNil aa 153 2
   have bc:SH w K MM ba K9 (r5 f [sv q2.Text,V6 q2.At] 104::r5 i [sv q1] 9::r5 g [V3 A b d,V3 (some ⟨X,0,none⟩) (n+1) Y] 43::U6 97 (some ⟨X,0,none⟩) (n+1) Y (lay++[E6.mk q1 q2.Text [] none 0 0])::((lay++[E6.mk q1 q2.Text [] none 0 0])).flatMap (E6.items 153 3)):=by
    have e1:(lay++[E6.mk q1 q2.Text [] none 0 0]).flatMap E6.cells=lay.flatMap E6.cells++[sv q1,sv q2.Text,V3 none 0 0]:=by rw [List.flatMap_append];rfl
    have e2:((lay++[E6.mk q1 q2.Text [] none 0 0])).flatMap (E6.items 153 3)=(lay).flatMap (E6.items 153 3)++[N0 (V3 none 0 0) [] 153 2]:=by rw [List.flatMap_append];rfl
    unfold U6
    rw [e1,e2]
    exact bb.perm ((show List.Perm ((_::_::_::_::(lay).flatMap (E6.items 153 3))++[_]) _ from List.perm_append_singleton _ _).trans (.cons _ (List.Perm.append_right ((lay).flatMap (E6.items 153 3)) (List.perm_append_comm (l₁:=[_,_]) (l₂:=[_,_])))))
   refine I6 ⟨_,_,_,_,K9,rfl,bc,W,fun x hx=>?_,?_⟩ ⟨rfl,rfl,rfl,rfl,trivial⟩
   ·rcases List.mem_append.1 hx with hx | hx
    ·exact U.1 x hx
    rcases List.mem_singleton.1 hx with rfl
    exact⟨ap,aq,by simp⟩
   rw [List.map_append,U.2];rfl
  rw [hb] at B ⊢
  simp only [i9] at B ⊢
  cases oi B
  exact i8 (qd ⟨a,n,c,lay,K,rfl,aj,.refl _,U⟩)
 rintro _ az ⟨a2,l,m,lay2,D,rfl,am,aA,hlay2⟩
 generalize hkk:(cond (decide (k<0)) (q0.Entries.length:Int) k)=kk at *
 obtain⟨hok2,hes⟩:=hlay2
 obtain⟨el,aB,hel⟩:=b1W (hes▸ar:p8 (lay2.map E6.x) kk=some en)
 obtain⟨pre,post,hsplit,hpre,bE⟩:=b6q aB
 have hn2:=a84 am m3
 have hn2e:l=es.length:=by rw [←hes,List.length_map];exact hn2
 obtain⟨gE,rfl⟩:=SH.rowI_at am m3 hn2 aB
 obtain⟨R,hR⟩: ∃R,R=((pre).flatMap (E6.items 153 3)++(post).flatMap (E6.items 153 3)):=⟨_,rfl⟩
 have y:SH w K MM az D (r5 f [sv q2.Text,V6 q2.At] 104::r5 i [sv q1] 9::r5 g [V3 A b d,V3 (some ⟨gE,0,none⟩) l m] 43::U6 97 (some ⟨gE,0,none⟩) l m (pre++el::post)::E6.row 153 el::(el.posts.map (M6.item 3)++R)):=by
  rw [hR]
  have J:=am
  rw [hsplit] at J
  exact J.perm ((List.Perm.append_left [_,_,_] (a93 (TE:=97) (TP:=153) (TI:=3))).symm)
 have helok:el.ok:=hok2 el (by rw [hsplit];simp)
 have hnP:el.n=el.posts.length:=a83 y m4
 have hhead:=a81 (pre:=pre) (post:=post) (e:=el) (o:=kk.toNat*3+2) (by rw [hpre])
 have hpl:el.posts.length≤maxLen:=b1R y m4 hnP
 have henp:en.Posts=el.posts.map M6.x:=by rw [←hel];rfl
 refine qr (mv rfl (lv (u7 rfl) (fl P7 rfl a2A m2 y rfl (mv rfl (lv (a2k (t:=B4) underlying41 P9 rfl rfl rfl hn2e ar) (av rfl (nr (mv rfl (lv (u7 rfl) ?_)))))))))
 refine fa X0 rfl (lv (a1w a3X rfl rfl hhead rfl (y.hasRow (.tail _ (.tail _ (.tail _ (.head _)))))) (lv (a3l underlying95 rfl hnP) (lv (I8 rfl rfl) (av rfl (ns (n9 (j9 (fun E' w'=>E'=[(3,V6 q3),(6,pt f),(9,.pointer (some ⟨gE,kk.toNat*B4.size,none⟩)),(10,V6 (y8 ((el.posts.length:Int)-1))),(62,.bool (H3 en.Posts q3))]∧w'=az) ?_ ?_)))))))
 ·refine j3 (mv rfl (lv (o4 rfl rfl) (mv rfl ?_)))
  rcases List.eq_nil_or_concat el.posts with hnil | ⟨ps0,p0,hcat⟩
  ·have hb:decide (y8 ((el.posts.length:Int)-1)<0)=true:=by rw [a7W hpl,hnil];rfl
   have hnp:H3 en.Posts q3=true:=by rw [henp,hnil];rfl
   rw [hnp]
   iterate 10 refine lu hb ?_
   refine lv (L1 rfl hb rfl) (i5 ?_)
   exact qd ⟨rfl,rfl⟩
  rw [List.concat_eq_append] at hcat
  have hlp:el.posts.length=ps0.length+1:=by rw [hcat];simp
  have hw:y8 ((el.posts.length:Int)-1)=(ps0.length:Int):=by rw [a7W hpl,hlp];omega
  have hb:decide (y8 ((el.posts.length:Int)-1)<0)=false:=by rw [hw];exact c6 (by omega)
  have hnp:H3 en.Posts q3= !(p0.doc==q3):=by rw [henp,hcat,List.map_append];simp [H3,M6.x]
  rw [hnp]
  have hzp:p8 en.Posts (y8 ((el.posts.length:Int)-1))=some p0.x:=by rw [henp,hcat,List.map_append];exact b0S (by rw [←hcat,hw];simp)
  have hnPe:el.n=en.Posts.length:=by rw [henp,List.length_map];exact hnP
  obtain⟨gP,hgP⟩:=SH.rowI_at y m4 hnPe hzp
  have hdoc:(el.posts.flatMap M6.cells)[(y8 ((el.posts.length:Int)-1)).toNat*2+0]? =some (V6 p0.doc):=by rw [hcat];exact a82 (k:=0) (by rw [←hcat,hw];simp)
  refine lg hb (i4 rfl) (lg hb (u7 rfl) (lg hb (c7 X0 rfl) (lg hb (a1w a3X rfl rfl hhead rfl (y.hasRow (.tail _ (.tail _ (.tail _ (.head _)))))) (lg hb (i4 rfl) (lg hb (a2k (t:=P8) underlying95 T2 rfl rfl hgP hnPe hzp) (lg hb (c7 a4J rfl) (lg hb (a1w G4 rfl rfl hdoc hgP (y.hasRow (.tail _ (.tail _ (.tail _ (.tail _ (.head _))))))) (lg hb (i4 rfl) (lg hb (U5 rfl rfl) ?_)))))))))
  refine lv (m9 rfl hb rfl) (i5 ?_)
  exact qd ⟨rfl,rfl⟩
 rintro _ _ ⟨rfl,rfl⟩
 refine l4 (j9 (fun E' w'=>∃el2 ps0 pl K3,E'=[(6,pt f),(9,.pointer (some ⟨gE,kk.toNat*B4.size,none⟩)),(10,V6 (ps0.length:Int))]∧SH w K MM w' K3 (r5 f [sv q2.Text,V6 q2.At] 104::r5 i [sv q1] 9::r5 g [V3 A b d,V3 (some ⟨gE,0,none⟩) l m] 43::U6 97 (some ⟨gE,0,none⟩) l m (pre++el2::post)::E6.row 153 el2::(pl.item 3::(ps0.map (M6.item 3)++R)))∧H7 K K3∧el2.ok∧el2.field=el.field∧el2.term=el.term∧el2.posts=ps0++[pl]∧ps=el2.posts.map M6.x) ?_ ?_)
 ·refine a0n rfl (fun hb=>?_) (fun hb=>?_)
  ·rw [hb] at C
   simp only [j6] at C
   refine sr (mv rfl (mv rfl (lv (u7 rfl) (fa X0 rfl (lv (a1w a3X rfl rfl hhead rfl (y.hasRow (.tail _ (.tail _ (.tail _ (.head _)))))) (mv rfl (lv (C4 (cs:=#[V6 q3,V3 none 0 0]) b8h T2 rfl (by kernel_rfl)) (W7 (t:=b5e 2) (n:=1) (pv:=[(0,.agg #[V6 q3,V3 none 0 0])]) (cs:=[V6 q3,V3 none 0 0]) (xs:=[([V6 q3,V3 none 0 0]:List Value)]) wn rfl underlying95 T2 rfl rfl rfl (by kernel_rfl) rfl rfl (a06 (t:=b5e 2) (u:=.agg #[V6 q3,V3 none 0 0]) (z:=([V6 q3,V3 none 0 0]:List Value)) ⟨rfl,rfl,by simp [Value.oneCell']⟩ a51) y fun bF bG aC bd aD hS22'=>?_))))))))
   obtain⟨bH,bI,rfl⟩:=b1P aD
   have be:=b3P aD
   have bf:=hS22'.drop
   unfold J5 at C
   split at C
   case isFalse=>cases C
   rename_i hbd
   cases C
   have hbd2:(el.n+1)*32≤140737488355328:=by rw [henp] at hbd;simp at hbd;rw [hnP];exact hbd
   refine a5C wn rfl underlying95 T2 rfl rfl rfl (by decide) rfl be (by simp [Value.oneCell']) (by rw [a1y,hnP]) (by omega) hbd2 bf.f4 fun aE c24 bJ bg=>(lv (u7 rfl) (fa X0 rfl (b0a wn a3X rfl rfl rfl bg.f4 (by have:=(g8.1 hhead).1;exact this) ?_)))
   intro bh bi
   refine nq (j3 (mv rfl (lv (u6 rfl rfl) (lv (b3T rfl (congrArg (Value.int .i64) (b7I hpl))) (i5 ?_)))))
   obtain⟨el2,hel2⟩: ∃el2:E6,el2=⟨el.field,el.term,el.posts++[⟨q3,[],none,0,0⟩],some ⟨aE,0,none⟩,el.n+1,c24⟩:=⟨_,rfl⟩
   have hset:=b1X (pre:=pre) (post:=post) (e:=el) (e':=el2) (o:=kk.toNat*3+2) (by rw [hpre]) (by rw [hel2]) (by rw [hel2])
   have bj:SH w K MM bh aC (N0 (V3 (some ⟨gE,0,none⟩) l m) ((pre++el2::post).flatMap E6.cells) 97 3::E6.row 153 el2::r5 f [sv q2.Text,V6 q2.At] 104::r5 i [sv q1] 9::r5 g [V3 A b d,V3 (some ⟨gE,0,none⟩) l m] 43::(el.posts.map (M6.item 3)++R)):=by
    have e1:el2.posts.flatMap M6.cells=el.posts.flatMap M6.cells++[V6 q3,V3 none 0 0]:=by rw [hel2,List.flatMap_append];rfl
    have e2:el2.a=some ⟨aE,0,none⟩:=by rw [hel2]
    have e3:el2.n=el.n+1:=by rw [hel2]
    have e4:el2.c=c24:=by rw [hel2]
    rw [←hset]
    unfold E6.row
    rw [e1,e2,e3,e4]
    exact bi
   have bk:=SH.rowNil bj 3 1
   refine I6 ⟨el2,el.posts,⟨q3,[],none,0,0⟩,aC,rfl,bk.perm ?_,aA.trans bd,?_,by rw [hel2],by rw [hel2],by rw [hel2],?_⟩ ⟨rfl,rfl,rfl,trivial⟩
   ·exact(List.Perm.append_left [_,_,_,_,_] (List.Perm.refl _)).trans ((List.perm_middle (l₁:=[_,_,_,_,_])).trans (.cons _ (List.Perm.append_right _ (List.perm_append_comm (l₁:=[_,_,_]) (l₂:=[_,_])))))
   ·rw [hel2]
    refine⟨helok.1,helok.2.1,fun q hq=>?_⟩
    rcases List.mem_append.1 hq with hq | hq
    ·exact helok.2.2 q hq
    rcases List.mem_singleton.1 hq with rfl
    exact⟨aL,by simp⟩
   rw [hel2,henp,List.map_append];rfl
  rw [hb] at C
  simp only [i9] at C
  cases oi C
  refine i8 ?_
  rcases List.eq_nil_or_concat el.posts with hnil | ⟨ps0,p0,hcat⟩
  ·rw [henp,hnil] at hb;cases hb
  rw [List.concat_eq_append] at hcat
  have hlp:el.posts.length=ps0.length+1:=by rw [hcat];simp
  have hw:y8 ((el.posts.length:Int)-1)=(ps0.length:Int):=by rw [a7W hpl,hlp];omega
  rw [hw]
  refine I6 ⟨el,ps0,p0,D,rfl,?_,aA,helok,rfl,rfl,hcat,henp⟩ ⟨rfl,rfl,rfl,trivial⟩
  have J:=y
  rw [hcat] at J
  exact J.perm (List.Perm.append_left [_,_,_,_,_] (a8L (TI:=3)).symm)
 rintro _ bK ⟨el2,ps0,pl,K3,rfl,ac,bl,hel2ok,hf2,ht2,hcat2,hps⟩
 refine l4 ?_
 have hpx:p=pl.x:=by rw [hps,hcat2,List.map_append] at ah;simp at ah;exact ah.symm
 have hn30:el2.n=el2.posts.length:=a83 ac m4
 have bm:p8 el2.posts (ps0.length:Int)=some pl:=by rw [hcat2];exact b0S rfl
 obtain⟨gP,hgP⟩:=SH.rowI_at ac m4 hn30 bm
 have hpn:pl.n=pl.at_.length:=b1Z ac m5
 have hhead2:=a81 (pre:=pre) (post:=post) (e:=el2) (o:=kk.toNat*3+2) (by rw [hpre])
 have aF:p8 (el2.posts.map M6.x) (ps0.length:Int)=some pl.x:=by rw [hcat2,List.map_append];exact b0S (by simp)
 have hn31:el2.n=(el2.posts.map M6.x).length:=by rw [List.length_map];exact hn30
 have hat:(el2.posts.flatMap M6.cells)[(ps0.length:Int).toNat*2+1]? =some (V3 pl.a pl.n pl.c):=by rw [hcat2];exact a82 (k:=1) (by simp)
 have O:=ac.drew
 refine wh1 (fun w'=>F0 K3 w'∧a5k (some ⟨gE,0,none⟩) ((pre++el2::post).flatMap E6.cells) w'∧A4 f [sv q2.Text,V6 q2.At] w') (fun w'=>a5k el2.a (el2.posts.flatMap M6.cells) w') 19 [(12,16),(16,19)] mixed ⟨O.hasK kr,O.hasRow m3,O.hasObj m0⟩ (fun _=>O.hasRow (.tail _ (.tail _ (.tail _ (.tail _ (.head _)))))) (gt (i4 rfl) (gt (u7 rfl) (gt (c7 X0 rfl) (gh (fun _ h=>a1w a3X rfl rfl hhead2 rfl h.2.1) (gt (i4 rfl) (gt (i4 rfl) (gt (u7 rfl) (gt (c7 X0 rfl) (gh (fun _ h=>a1w a3X rfl rfl hhead2 rfl h.2.1) ?_)))))))))
 refine gt (i4 rfl) (gt (a2k (t:=P8) underlying95 T2 rfl rfl hgP hn31 aF) (gt (c7 a3A rfl) (gf (fun _ h=>a1w a4E rfl rfl hat hgP h) (gt (c7 a0i rfl) (gh (fun _ h=>z8 G4 rfl rfl h.2.2) (gn (lb F2 (V6 q2.At) [V6 q2.At] q2.At underlying30 G4 ⟨rfl,ag⟩ O fun bL bM ad ae aG hS35'=>?_)))))))
 obtain⟨bN,bO,rfl⟩:=b7H aG
 have bn:=b7l aG
 have S:=hS35'.drop
 refine i5 (qh ⟨S.hasK ae,S.hasRow m3,S.hasObj m0⟩ (fun _=>S.hasRow (.tail _ (.tail _ (.tail _ (.tail _ (.head _)))))) (gn ?_))
 unfold J5 at V
 split at V
 case isFalse=>cases V
 rename_i hbd
 cases V
 have hbd2:(pl.n+1)*8≤140737488355328:=by rw [hpx] at hbd;simp [M6.x] at hbd;rw [hpn];exact hbd
 refine a5C wn rfl underlying30 G4 rfl rfl rfl (by decide) rfl bn (by simp [Value.oneCell']) (by rw [List.length_map,hpn,Nat.mul_one]) (by omega) hbd2 S.f5 fun aH c37 bP T=>(i5 (qh ⟨T.hasK ae,T.hasRow m4,T.hasObj m1⟩ (fun _=>T.hasRow (.tail _ (.tail _ (.tail _ (.tail _ (.tail _ (.head _))))))) (gt (a2k (t:=P8) underlying95 T2 rfl rfl hgP hn31 aF) (gt (c7 a3A rfl) (gn ?_)))))
 obtain⟨fl2,tm2,po2,a2',m2',c2'⟩:=el2
 simp only at hgP hat hcat2 hf2 ht2 hn30
 subst hgP
 refine b0a wn a4E rfl rfl rfl T.f5 (by have:=(g8.1 hat).1;exact this) ?_
 intro ao af
 refine i5 (qh ⟨af.hasK ae,af.hasRow m5,af.hasObj m2⟩ (fun h=>by cases h) (gd' ?_))
 subst hR
 subst hcat2
 obtain⟨pl2,hpl2⟩: ∃pl2:M6,pl2=⟨pl.doc,pl.at_++[q2.At],some ⟨aH,0,none⟩,pl.n+1,c37⟩:=⟨_,rfl⟩
 obtain⟨el3,hel3⟩: ∃el3:E6,el3=⟨fl2,tm2,ps0++[pl2],some ⟨gP,0,none⟩,m2',c2'⟩:=⟨_,rfl⟩
 have bo:SH w K MM ao ad (E6.row 153 el3::pl2.item 3::r5 f [sv q2.Text,V6 q2.At] 104::r5 i [sv q1] 9::r5 g [V3 A b d,V3 (some ⟨gE,0,none⟩) l m] 43::U6 97 (some ⟨gE,0,none⟩) l m (pre++el3::post)::(ps0.map (M6.item 3)++((pre).flatMap (E6.items 153 3)++(post).flatMap (E6.items 153 3)))):=by
  have e1:=b11 (ps:=ps0) (p:=pl) (p':=pl2) (o:=(ps0.length:Int).toNat*2+1) (by simp) (by rw [hpl2])
  have e2:pl2.a=some ⟨aH,0,none⟩:=by rw [hpl2]
  have e3:pl2.n=pl.n+1:=by rw [hpl2]
  have e4:pl2.c=c37:=by rw [hpl2]
  have e5:pl2.at_.map b0x=pl.at_.map b0x++[V6 q2.At]:=by rw [hpl2,List.map_append];rfl
  have e6:(pre++el3::post).flatMap E6.cells=(pre++⟨fl2,tm2,ps0++[pl],some ⟨gP,0,none⟩,m2',c2'⟩::post).flatMap E6.cells:=by rw [hel3,List.flatMap_append,List.flatMap_append,List.flatMap_cons,List.flatMap_cons];rfl
  have e7:E6.row 153 el3=N0 (V3 (some ⟨gP,0,none⟩) m2' c2') ((ps0++[pl2]).flatMap M6.cells) 153 2:=by rw [hel3];rfl
  rw [e7,←e1]
  unfold U6
  rw [e6]
  show SH w K MM ao ad (_::N0 (V3 pl2.a pl2.n pl2.c) (pl2.at_.map b0x) 3 1::_)
  rw [e2,e3,e4,e5]
  exact af
 have br:=bo.sublist (.cons_cons _ (.cons_cons _ (.cons _ (.cons _ (List.Sublist.refl _)))))
 have hpo3:el3.posts=ps0++[pl2]:=by rw [hel3]
 have bs:SH w K MM ao ad (I1 97 153 3 (some ⟨gE,0,none⟩) l m (pre++el3::post)++[r5 g [V3 A b d,V3 (some ⟨gE,0,none⟩) l m] 43]):=by
  refine br.perm ((List.perm_append_singleton _ _).trans ((List.Perm.cons _ (a93 (TE:=97) (TP:=153) (TI:=3))).trans ?_))
  rw [hpo3]
  exact(List.Perm.append_left [_,_,_] (a8L (TI:=3))).trans (List.Perm.append_right _ (List.perm_append_comm (l₁:=[_,_]) (l₂:=[_,_])))
 have bu:=bs.packUp.perm (List.Perm.swap _ _ _)
 refine a9v (O8 (vs:=[]) results87 trivial ⟨A,b,d,some ⟨gE,0,none⟩,l,m,pre++el3::post,ad,rfl,bu,aK.mono (bl.trans ae),?_,?_⟩)
 ·intro x hx
  rw [hsplit] at hok2
  rcases List.mem_append.1 hx with hx | hx
  ·exact hok2 x (List.mem_append_left _ hx)
  rcases List.mem_cons.1 hx with rfl | hx
  ·rw [hel3,hpl2]
   refine⟨hel2ok.1,hel2ok.2.1,fun q hq=>?_⟩
   rcases List.mem_append.1 hq with hq | hq
   ·exact hel2ok.2.2 q (List.mem_append_left _ hq)
   rcases List.mem_singleton.1 hq with rfl
   have h8:=hel2ok.2.2 pl (List.mem_append_right _ (List.mem_singleton.2 rfl))
   refine⟨h8.1,fun z hz=>?_⟩
   rcases List.mem_append.1 hz with hz | hz
   ·exact h8.2 z hz
   rcases List.mem_singleton.1 hz with rfl
   exact ag
  exact hok2 x (List.mem_append_right _ (List.mem_cons_of_mem _ hx))
 show _=es.set kk.toNat _
 rw [←hes,hsplit,List.map_append,List.map_cons,List.map_append,List.map_cons,List.set_append_right _ _ (by rw [List.length_map,hpre];exact Nat.le_refl _),List.length_map,hpre,Nat.sub_self,List.set_cons_zero]
 have e1:el3.x=v8.mk en.Field en.Term (ps.dropLast++[D1.mk p.Doc (p.At++[q2.At])]):=by
  rw [hel3,hps,hpx,hpl2,←hel]
  simp [E6.x,M6.x,hf2,ht2]
 rw [e1]

theorem a9o {q0:List Int}{r:Int}(hS:SH w K [] w K [])(k:b7 F2 K A a b q0)(hm:a0W F q0=some r):
  Calls prog 90 #[V3 A a b] w (R_i w K r):=by
 rw [a0W] at hm
 refine ci func90 u ntmps90 (sr (lv (R1 u) (nr (lv (R1 u) (Q9 (mv u (lv (p7 underlying30 u k) (lv (r_m u) (nq ?_)))))))))
 obtain⟨s,x,d⟩:=ob hm
 refine j9 (IE s w K [] K [(3,V6 0)] []) ?_ ?_
 ·refine i7 ?_
  obtain⟨aa,y,m⟩:=ob x
  refine qf (fun (o:Nat) (q:Unit)=>IV w K [] K [(3,V6 0),(6,V3 A a b),(7,V6 (q0.length:Int)),(8,V6 ((o:Nat):Int))] []) y ⟨K,u,hS,kr⟩ ?_ ?_
  ·rintro o q _ B ab hi23 C D ⟨f,rfl,c,i⟩
   refine sr (lv (o4 u u) (ns (y5 u (b8 (by omega)) (i8 (l4 (n9 (i7 (sr ?_))))))))
   obtain⟨G,H,I⟩:=ob C
   refine li underlying30 G4 (k.mono i) H fun J O ac R S=>?_
   obtain⟨rfl,T⟩:=R
   have U:D7 _ J O [V6 G]:=S
   refine lv (z2 G4 u c (U 0 _ u)) (av u (nr (mv u (mv u (lv (U5 u u) (nq (D0 I u (fun V l=>?_) (fun V l=>?_))))))))
   ·refine sr (mv u (av u (nq (l7 (j4 (g6 (g6 ?_)))))))
    cases oi l
    cases D _ u
    refine j4 (g6 ?_)
    cases oi m
    refine g6 ?_
    cases oi d
    exact ey results90 ⟨f,u,c,T⟩
   refine i8 (q7 (qg (lv (u3 u u (x9 hi23 (b7.max k))) (mv u (i5 ?_)))))
   cases oi l
   exact qd ⟨_,u,f,u,c,i⟩
  rintro q _ B W ⟨f,rfl,c,i⟩
  subst W
  refine sr (lv (o4 u u) (ns (y4 u (c6 (by omega)) (p9 (c9 (c9 (j7 ?_)))))))
  cases oi m
  exact qd ⟨_,f,u,u,c,i⟩
 rintro _ ad ⟨s8,X,rfl,rfl,Y,af⟩
 have d:=D9 d
 refine qr (mv u (av u (nq (l7 ?_))))
 cases oi d
 exact ey results90 ⟨X,u,Y,R3⟩

theorem a15 {q0:l3}{r:Bool}(hS:SH w K [] w K [])(a:q0.length≤maxLen)(hm:J7 F q0=some r):
  Calls prog 138 #[sv q0] w (R_b w K r):=by
 rw [J7] at hm
 refine ci func138 u ntmps138 (sr (lv (M7 u) (nr (mv u (mv u (lv (X9 u u) (av u (nq (l7 ?_)))))))))
 cases oi hm
 exact ey results138 ⟨K,u,hS⟩

theorem a1p {q0:l3}{q1:l3}{r:Int}(hS:SH w K [] w K [])(m:q0.length≤maxLen)(o:q1.length≤maxLen)(hm:I0 F q0 q1=some r):
  Calls prog 91 #[sv q0,sv q1] w (R_i w K r):=by
 rw [I0] at hm
 refine ci func91 u ntmps91 (sr (lv (R1 u) (nr (mv u ?_))))
 obtain⟨J,q,s⟩:=ob hm
 refine lk b7V (a15 F hS.enter0 m q) ?_
 rintro O R ⟨S,rfl,x⟩
 have l:=(hS.c0 x).t0
 refine av u (nr (mv u ?_))
 obtain⟨T,y,A⟩:=ob s
 refine lk b7V (a15 F l.enter0 o y) ?_
 rintro U V ⟨a,rfl,B⟩
 have b:=(l.c0 B).t0
 refine av u (Q9 (mv u (nq (D0 A u (fun C c=>?_) (fun C c=>?_)))))
 ·refine n9 (sr (mv u (nq (D0 c u (fun D d=>?_) (fun D d=>?_)))))
  ·refine sr (lv (R1 u) (nq (rr (g6 ?_))))
   cases oi d
   exact ey results91 ⟨a,u,b,R3⟩
  refine i8 (qr (lv (r4 (v:=V6 (-1)) u) (nq (rr ?_))))
  cases oi d
  exact ey results91 ⟨a,u,b,(by decide :j5 (-1))⟩
 refine i8 (qs (sr (mv u (nq (D0 c u (fun G f=>?_) (fun G f=>?_))))))
 ·refine sr (lv (r4 (v:=V6 1) u) (nq (rr ?_)))
  cases oi f
  exact ey results91 ⟨a,u,b,(by decide :j5 1)⟩
 refine i8 (qs (sr (mv u (mv u (lv (b3Y u u) (nq (D0 f u (fun H i=>?_) (fun H i=>?_))))))))
 ·refine sr (lv (r4 (v:=V6 (-1)) u) (nq (rr ?_)))
  cases oi i
  exact ey results91 ⟨a,u,b,(by decide :j5 (-1))⟩
 refine i8 (qs (sr (mv u (mv u (lv (b7D u u) (nq (D0 i u (fun I k=>?_) (fun I k=>?_))))))))
 ·refine sr (lv (r4 (v:=V6 1) u) (nq (rr ?_)))
  cases oi k
  exact ey results91 ⟨a,u,b,(by decide :j5 1)⟩
 refine i8 (qr (lv (R1 u) (nq (l7 ?_))))
 cases oi k
 exact ey results91 ⟨a,u,b,R3⟩

theorem a7u {q0:v8}{q1:v8}{r:Int}(hS:SH w K [] w K [])(H:q0.Field.length≤maxLen)(I:q0.Term.length≤maxLen)(ah:b7 P8 K A a b q0.Posts)(J:q1.Field.length≤maxLen)(O:q1.Term.length≤maxLen)(ai:b7 P8 K B c d q1.Posts)(hm:L3 F q0 q1=some r):
  Calls prog 89 #[.agg #[sv q0.Field,sv q0.Term,V3 A a b],.agg #[sv q1.Field,sv q1.Term,V3 B c d]] w (R_i w K r):=by
 rw [L3] at hm
 refine ci func89 rfl ntmps89 (sr (bx rfl hS fun y aj R=>?_))
 have S:SH _ _ _ _ _ [r5 y [sv q0.Field,sv q0.Term,V3 A a b] 97]:=R
 refine bx rfl S fun C ak T=>?_
 have U:SH _ _ _ _ _ [r5 C [sv q1.Field,sv q1.Term,V3 B c d] 97,_]:=T
 refine lv (R1 rfl) (ns ?_)
 have f:=U.drew
 refine j_0 (fun w'=>F0 K w'∧A4 y [sv q0.Field,sv q0.Term,V3 A a b] w'∧A4 C [sv q1.Field,sv q1.Term,V3 B c d] w') 13 [] mixed ⟨f.hasK kr,f.hasObj m1,f.hasObj m0⟩ (jv 0 rfl (c7 a3B rfl) (jh 1 rfl (fun _ h=>z8 D8 rfl rfl h.2.1) (jv 2 rfl (c7 a3B rfl) (jh 3 rfl (fun _ h=>z8 D8 rfl rfl h.2.2) (jv 5 rfl (c7 a2P rfl) (jh 6 rfl (fun _ h=>z8 D8 rfl rfl h.2.1) (jv 7 rfl (c7 a2P rfl) (jh 8 rfl (fun _ h=>z8 D8 rfl rfl h.2.2) (j1 4 rfl ?_)))))))))
 obtain⟨i,V,W⟩:=ob hm
 refine lk b9T (a1p F f.enter0 H J V) ?_
 rintro al am ⟨an,rfl,k,X⟩
 have l:=(f.c0 k).t2
 refine j_o ⟨l.hasK k.le,l.hasObj m1,l.hasObj m0⟩ (j1 9 rfl ?_)
 obtain⟨m,Y,aa⟩:=ob W
 refine lk b9T (a1p F l.enter0 I O Y) ?_
 rintro ao ap ⟨aq,rfl,q,ab⟩
 have s:=(l.c0 q).t2
 refine j_o ⟨s.hasK (k.le.trans q.le),s.hasObj m1,s.hasObj m0⟩ (j1 10 rfl (W7 (t:=F2) (n:=2) (pv:=[(0,V6 i),(1,V6 m)]) (cs:=[V6 i,V6 m]) (xs:=[i,m]) wn rfl underlying30 G4 rfl rfl rfl (by kernel_rfl) rfl rfl (a06 (u:=V6 i) (z:=i) ⟨rfl,X⟩ (a06 (u:=V6 m) (z:=m) ⟨rfl,ab⟩ a51)) s fun ar au aw D ac o=>(j_o ⟨o.hasK ((k.le.trans q.le).trans D),o.hasObj m2,o.hasObj m1⟩ (j1 11 rfl ?_))))
 obtain⟨ax,ad,ae⟩:=ob aa
 refine lk c0B (a9o F o.enter0 ac ad) ?_
 rintro ay az ⟨af,rfl,G,ag⟩
 have x:=(o.c0 G).t3
 refine j_o ⟨x.hasK (((k.le.trans q.le).trans D).trans G.le),x.hasObj m2,x.hasObj m1⟩ (jv 12 rfl (r4 rfl) (jd (l4 (l7 ?_))))
 cases oi ae
 exact ey results89 ⟨af,rfl,x.s,ag⟩

theorem a40 {q0:List Int}{q1:List Int}{r:Bool}(hS:SH w K [] w K [])(i:b7 F2 K A a b q0)(s:b7 F2 K B c d q1)(hm:O2 F q0 q1=some r):
  Calls prog 139 #[V3 A a b,V3 B c d] w (R_b w K r):=by
 rw [O2] at hm
 refine ci func139 u ntmps139 (sr (lv (M7 u) (Q9 (mv u (lv (p7 underlying30 u i) (mv u (lv (p7 underlying30 u s) (lv (U5 u u) (nq ?_)))))))))
 refine a0n u (fun l=>?_) (fun l=>?_)
 ·have m:=a3w l hm
  refine sr (lv (M7 u) (nq (rr ?_)))
  cases oi m
  exact ey results139 ⟨K,u,hS⟩
 have m:=a3v l hm
 refine i8 (qs (sr (mv u (lv (p7 underlying30 u i) (lv (r_m u) (nq ?_))))))
 obtain⟨I,J,k⟩:=ob m
 refine j9 (IE I w K [] K [] []) ?_ ?_
 ·refine i7 ?_
  obtain⟨aq,O,x⟩:=ob J
  refine qf (fun (y:Nat) (C:Unit)=>IV w K [] K [(0,V3 A a b),(1,V3 B c d),(12,V6 (q0.length:Int)),(13,V6 ((y:Nat):Int))] []) O ⟨K,u,hS,kr⟩ ?_ ?_
  ·rintro y C _ R ar hi29 S T ⟨D,rfl,o,f⟩
   refine sr (lv (o4 u u) (ns (y5 u (b8 (by omega)) (i8 (l4 (n9 (i7 (sr (mv u (av u (ns (D3 mixed (by kernel_rfl) o ?_))))))))))))
   refine km u (km u ?_)
   obtain⟨U,V,W⟩:=ob S
   refine ki underlying30 G4 (i.mono f) V fun X Y au aa ab=>?_
   obtain⟨rfl,aw⟩:=aa
   have ac:D7 _ X Y [V6 U]:=ab
   refine kh (z7 G4 u (ac 0 _ u)) (km u (km u ?_))
   obtain⟨ad,ae,af⟩:=ob W
   refine ki underlying30 G4 (s.mono f) ae fun ag ah ax ai aj=>?_
   obtain⟨rfl,ay⟩:=ai
   have ak:D7 _ ag ah [V6 ad]:=aj
   refine kh (z7 G4 u (ak 0 _ u)) (kv (U5 u u) (A3 ?_))
   rintro az ⟨G,H,al⟩
   refine l4 (D0 af u (fun am q=>?_) (fun am q=>?_))
   ·refine sr (lv (M7 u) (nq (l7 (j4 (g6 (g6 ?_))))))
    cases oi q
    cases T _ u
    refine j4 (g6 ?_)
    cases oi x
    refine g6 ?_
    cases oi k
    exact ey results139 ⟨G,u,H⟩
   refine i8 (q7 (qg (lv (u3 u u (x9 hi29 (b7.max i))) (mv u (i5 ?_)))))
   cases oi q
   exact qd ⟨_,u,G,u,H,(f.trans al)⟩
  rintro C _ R an ⟨D,rfl,o,f⟩
  subst an
  refine sr (lv (o4 u u) (ns (y4 u (c6 (by omega)) (p9 (c9 (c9 (j7 ?_)))))))
  cases oi x
  exact I6 ⟨_,D,u,u,o,f⟩ trivial
 rintro _ aA ⟨aB,ao,rfl,rfl,ap,aC⟩
 have k:=D9 k
 refine qr (lv (r_t u) (nq (l7 ?_)))
 cases oi k
 exact ey results139 ⟨ao,u,ap⟩

theorem a6J {q0:D1}{q1:D1}{r:Bool}(hS:SH w K [] w K [])(J:j5 q0.Doc)(l:b7 F2 K A a b q0.At)(O:j5 q1.Doc)(m:b7 F2 K B c d q1.At)(hm:V4 F q0 q1=some r):
  Calls prog 93 #[.agg #[V6 q0.Doc,V3 A a b],.agg #[V6 q1.Doc,V3 B c d]] w (R_b w K r):=by
 rw [V4] at hm
 refine ci func93 u ntmps93 (sr (bx u hS fun o R q=>?_))
 have s:SH _ _ _ _ _ [r5 o [V6 q0.Doc,V3 A a b] 153]:=q
 refine bx u s fun x S y=>?_
 have i:SH _ _ _ _ _ [r5 x [V6 q1.Doc,V3 B c d] 153,_]:=y
 refine lv (M7 u) (nr (fl a4J u G4 m1 i u (fl a4J u G4 m0 i u (lv (F7 u u) (mv u (bt hm (fun f k=>?_) (fun f k=>?_)))))))
 ·refine lg f (c7 a3A u) (lg f (x8 a4E u m1 i u) (lg f (c7 a3A u) (lg f (x8 a4E u m0 i u) ?_)))
  obtain⟨T,C,D⟩:=ob k
  refine A7 (wg u u f) u (A6 (vs:=[V3 A a b,V3 B c d]) b9o u) (a40 F i.enter0 l m C) ?_
  rintro U V ⟨G,rfl,H⟩
  refine⟨_,u,?_⟩
  have I:=(i.c0 H).t2
  refine lv (q8 u f u) (av u (nq (l7 ?_)))
  cases oi D
  exact ey results93 ⟨G,u,I.s⟩
 iterate 5 refine lu f ?_
 refine lv (X8 u f u) (av u (nq (l7 ?_)))
 cases oi k
 exact ey results93 ⟨K,u,i.s⟩

theorem Y1 {q0:List D1}{q1:List D1}{r:Bool}(hS:SH w K [] w K [])(i:b7 P8 K A a b q0)(O:b7 P8 K B c d q1)(hm:C6 F q0 q1=some r):
  Calls prog 92 #[V3 A a b,V3 B c d,.func (.func 93) #[] #[]] w (R_b w K r):=by
 rw [C6] at hm
 refine ci func92 u ntmps92 (sr (lv (M7 u) (Q9 (mv u (lv (p7 underlying95 u i) (mv u (lv (p7 underlying95 u O) (lv (U5 u u) (nq ?_)))))))))
 refine a0n u (fun H=>?_) (fun H=>?_)
 ·have I:=a3w H hm
  refine sr (lv (M7 u) (nq (rr ?_)))
  cases oi I
  exact ey results92 ⟨K,u,hS⟩
 have I:=a3v H hm
 refine i8 (qs (sr (mv u (lv (p7 underlying95 u i) (lv (r_m u) (nq ?_))))))
 obtain⟨aa,ab,k⟩:=ob I
 refine j9 (IE aa w K [] K [] []) ?_ ?_
 ·refine i7 ?_
  obtain⟨aO,ac,R⟩:=ob ab
  refine qf (fun (S:Nat) (T:Unit)=>IV w K [] K [(1,V3 B c d),(2,.func (.func 93) #[] #[]),(15,V3 A a b),(16,V6 (q0.length:Int)),(17,V6 ((S:Nat):Int))] []) ac ⟨K,u,hS,kr⟩ ?_ ?_
  ·rintro S T _ ad aP hi29 ae af ⟨U,rfl,l,f⟩
   refine sr (lv (o4 u u) (ns (y5 u (b8 (by omega)) (i8 (l4 (n9 (i7 (sr (mv u ?_)))))))))
   obtain⟨m,ag,ah⟩:=ob ae
   refine li underlying95 T2 (i.mono f) ag fun ai aj aQ ak am=>?_
   obtain⟨o,q,s,rfl,an,ao⟩:=ak
   have ap:D7 _ ai aj [V6 m.Doc,V3 o q s]:=am
   refine lv (C9 T2 u l ap u) (al T2 l fun aq aR ar=>?_)
   have au:SH _ _ _ _ _ [r5 aq [V6 0,V3 none 0 0] 153]:=ar
   refine av u (lw [V6 m.Doc,V3 o q s] T2 au fun aS V=>(nr (mv u (mv u ?_))))
   obtain⟨x,aw,ax⟩:=ob ah
   refine li underlying95 T2 (O.mono f) aw fun ay az aT aA aB=>?_
   obtain⟨y,C,D,rfl,aC,aD⟩:=aA
   have aE:D7 _ ay az [V6 x.Doc,V3 y C D]:=aB
   refine lv (C9 T2 u V aE u) (al T2 V fun aF aU aG=>?_)
   have aH:SH _ _ _ _ _ [r5 aF [V6 0,V3 none 0 0] 153,_]:=aG
   refine lw [V6 x.Doc,V3 y C D] T2 aH fun aV G=>(nr (mv u (lv (s7 (ds:=[V6 m.Doc,V3 o q s]) T2 u m1 G u u) (lv (s7 (ds:=[V6 x.Doc,V3 y C D]) T2 u m0 G u u) ?_))))
   obtain⟨aW,aI,aJ⟩:=ob ax
   refine A7 wn u (a8T (vs:=[.agg #[V6 m.Doc,V3 o q s],.agg #[V6 x.Doc,V3 y C D]]) (cap:=#[]) c0D u u) (a6J F G.enter0 an ao aC aD aI) ?_
   rintro aX aY ⟨W,rfl,X⟩
   refine⟨_,u,?_⟩
   have Y:=(G.c0 X).t2
   refine lv (y3 u) (nq (D0 aJ u (fun aK J=>?_) (fun aK J=>?_)))
   ·refine sr (lv (M7 u) (nq (l7 (j4 (g6 (g6 ?_))))))
    cases oi J
    cases af _ u
    refine j4 (g6 ?_)
    cases oi R
    refine g6 ?_
    cases oi k
    exact ey results92 ⟨W,u,Y.s⟩
   refine i8 (q7 (qg (lv (u3 u u (x9 hi29 (b7.max i))) (mv u (i5 ?_)))))
   cases oi J
   exact qd ⟨_,u,W,u,Y.s,(f.trans X.le)⟩
  rintro T _ ad aL ⟨U,rfl,l,f⟩
  subst aL
  refine sr (lv (o4 u u) (ns (y4 u (c6 (by omega)) (p9 (c9 (c9 (j7 ?_)))))))
  cases oi R
  exact I6 ⟨_,U,u,u,l,f⟩ trivial
 rintro _ aZ ⟨ba,aM,rfl,rfl,aN,bb⟩
 have k:=D9 k
 refine qr (lv (r_t u) (nq (l7 ?_)))
 cases oi k
 exact ey results92 ⟨aM,u,aN⟩

theorem a57 {q0:v8}{q1:v8}{r:Bool}(hS:SH w K [] w K [])(R:q0.Field.length≤maxLen)(S:q0.Term.length≤maxLen)(o:b7 P8 K A a b q0.Posts)(T:q1.Field.length≤maxLen)(U:q1.Term.length≤maxLen)(q:b7 P8 K B c d q1.Posts)(hm:S2 F q0 q1=some r):
  Calls prog 47 #[.agg #[sv q0.Field,sv q0.Term,V3 A a b],.agg #[sv q1.Field,sv q1.Term,V3 B c d]] w (R_b w K r):=by
 rw [S2] at hm
 refine ci func47 u ntmps47 (sr (bx u hS fun s V x=>?_))
 have y:SH _ _ _ _ _ [r5 s [sv q0.Field,sv q0.Term,V3 A a b] 97]:=x
 refine bx u y fun C W D=>?_
 have f:SH _ _ _ _ _ [r5 C [sv q1.Field,sv q1.Term,V3 B c d] 97,_]:=D
 refine lv (M7 u) (nr (fl a3B u D8 m1 f u (fl a3B u D8 m0 f u (lv (J4 u u) (mv u (bt hm (fun i l=>?_) (fun i l=>?_)))))))
 ·refine lg i (c7 a2P u) (lg i (x8 D8 u m1 f u) (lg i (c7 a2P u) (lg i (x8 D8 u m0 f u) (lg i (J4 u u) (lv (q8 u i u) (mv u (bt l (fun k m=>?_) (fun k m=>?_))))))))
  ·refine lg k (c7 X0 u) (lg k (x8 a3X u m1 f u) (lg k (c7 X0 u) (lg k (x8 a3X u m0 f u) ?_)))
   obtain⟨X,G,H⟩:=ob m
   refine A7 (wg u u k) u (A6 (vs:=[V3 A a b,V3 B c d,.func (.func 93) #[] #[]]) c0C u) (Y1 F f.enter0 o q G) ?_
   rintro Y aa ⟨I,rfl,J⟩
   refine⟨_,u,?_⟩
   have O:=(f.c0 J).t2
   refine lv (q8 u k u) (av u (nq (l7 ?_)))
   cases oi H
   exact ey results47 ⟨I,u,O.s⟩
  iterate 5 refine lu k ?_
  refine lv (X8 u k u) (av u (nq (l7 ?_)))
  cases oi m
  exact ey results47 ⟨K,u,f.s⟩
 iterate 5 refine lu i ?_
 refine lv (X8 u i u) (mv u ?_)
 iterate 5 refine lu u ?_
 refine lv (X8 u u u) (av u (nq (l7 ?_)))
 cases oi l
 exact ey results47 ⟨K,u,f.s⟩

theorem a5v {q0:List Int}{q1:List Int}{r:Bool}(hS:SH w K [] w K [])(k:b7 F2 K A a b q0)(x:b7 F2 K B c d q1)(hm:L8 F q0 q1=some r):
  Calls prog 144 #[V3 A a b,V3 B c d] w (R_b w K r):=by
 rw [L8] at hm
 refine ci func144 u ntmps144 (sr (lv (M7 u) (Q9 (mv u (lv (p7 underlying30 u k) (mv u (lv (p7 underlying30 u x) (lv (U5 u u) (nq ?_)))))))))
 refine a0n u (fun l=>?_) (fun l=>?_)
 ·have m:=a3w l hm
  refine sr (lv (M7 u) (nq (rr ?_)))
  cases oi m
  exact ey results144 ⟨K,u,hS⟩
 have m:=a3v l hm
 refine i8 (qs (sr (lv (R1 u) (nq ?_))))
 obtain⟨I,J,i⟩:=ob m
 refine j9 (IE I w K [] K [] []) ?_ ?_
 ·refine i7 ?_
  obtain⟨ap,O,y⟩:=ob J
  refine qw (fun (o:Int)=>IW w K [] K [(0,V3 A a b),(1,V3 B c d),(5,V6 o)] [] (j5 o)) O ⟨K,u,hS,kr,R3⟩ ?_
  rintro o _ aq ar R C ⟨S,rfl,D,f,au⟩
  refine n9 (sr (mv u (mv u (lv (p7 underlying30 u (k.mono f)) (lv (o4 u u) (nq (D0 R u (fun T q=>?_) (fun T q=>?_))))))))
  ·refine i8 (qs (i7 (n9 (D3 mixed (by kernel_rfl) D (km u (km u ?_))))))
   obtain⟨U,V,W⟩:=ob q
   refine ki underlying30 G4 (k.mono f) V fun X Y aw aa ab=>?_
   obtain⟨rfl,ax⟩:=aa
   have ac:D7 _ X Y [V6 U]:=ab
   refine kh (z7 G4 u (ac 0 _ u)) (km u (km u ?_))
   obtain⟨ad,ae,af⟩:=ob W
   refine ki underlying30 G4 (x.mono f) ae fun ag ah ay ai aj=>?_
   obtain⟨rfl,az⟩:=ai
   have ak:D7 _ ag ah [V6 ad]:=aj
   refine kh (z7 G4 u (ak 0 _ u)) (kv (U5 u u) (A3 ?_))
   rintro aA ⟨G,H,al⟩
   refine l4 (D0 af u (fun am s=>?_) (fun am s=>?_))
   ·refine sr (lv (M7 u) (nq (l7 (j4 (g6 (g6 ?_))))))
    cases oi s
    cases C _ u
    refine j4 (g6 ?_)
    cases oi y
    refine g6 ?_
    cases oi i
    exact ey results144 ⟨G,u,H⟩
   refine i8 (q7 (l4 (j3 (mv u (lv (u6 u u) (av u (i5 ?_)))))))
   cases oi s
   exact qd ⟨_,u,G,u,H,(f.trans al),(s6 _)⟩
  refine p9 (c9 (c9 ?_))
  cases oi q
  cases C _ u
  refine j7 ?_
  cases oi y
  exact I6 ⟨_,S,u,u,D,f⟩ trivial
 rintro _ aB ⟨aC,an,rfl,rfl,ao,aD⟩
 have i:=D9 i
 refine qr (lv (r_t u) (nq (l7 ?_)))
 cases oi i
 exact ey results144 ⟨an,u,ao⟩

theorem a41 {q0:v8}{q1:v8}{r:Bool}(hS:SH w K [] w K [])(bF:q0.Field.length≤maxLen)(bG:q0.Term.length≤maxLen)(x:b7 P8 K A a b q0.Posts)(bH:q1.Field.length≤maxLen)(bI:q1.Term.length≤maxLen)(G:b7 P8 K B c d q1.Posts)(hm:O5 F q0 q1=some r):
  Calls prog 98 #[.agg #[sv q0.Field,sv q0.Term,V3 A a b],.agg #[sv q1.Field,sv q1.Term,V3 B c d]] w (R_b w K r):=by
 rw [O5] at hm
 refine ci func98 u ntmps98 (sr (bx u hS fun m bJ ac=>?_))
 have ad:SH _ _ _ _ _ [r5 m [sv q0.Field,sv q0.Term,V3 A a b] 97]:=ac
 refine bx u ad fun o bK ae=>?_
 have k:SH _ _ _ _ _ [r5 o [sv q1.Field,sv q1.Term,V3 B c d] 97,_]:=ae
 refine lv (M7 u) (ns (n9 ?_))
 obtain⟨af,ag,ah⟩:=ob hm
 refine j9 (IV w K [] K [(2,pt m),(3,pt o),(26,.bool af)] [r5 m [sv q0.Field,sv q0.Term,V3 A a b] 97,r5 o [sv q1.Field,sv q1.Term,V3 B c d] 97]) ?_ ?_
 ·refine j3 (fl a3B u D8 m1 k u (fl a3B u D8 m0 k u (lv (X9 u u) (mv u (bt ag (fun l H=>?_) (fun l H=>?_))))))
  ·iterate 5 refine lu l ?_
   refine lv (L1 u l u) (mv u ?_)
   iterate 7 refine lu u ?_
   refine lv (L1 u u u) (i5 ?_)
   cases oi H
   exact qd ⟨K,u,k.f1,kr⟩
  refine lg l (c7 a2P u) (lg l (x8 D8 u m1 k u) (lg l (c7 a2P u) (lg l (x8 D8 u m0 k u) (lg l (X9 u u) (lv (m9 u l u) (mv u (bt H (fun i I=>?_) (fun i I=>?_))))))))
  ·iterate 7 refine lu i ?_
   refine lv (L1 u i u) (i5 ?_)
   cases oi I
   exact qd ⟨K,u,k.f1,kr⟩
  refine lg i (c7 X0 u) (lg i (x8 a3X u m1 k u) (lg i (p7 underlying95 u x) (lg i (c7 X0 u) (lg i (x8 a3X u m0 k u) (lg i (p7 underlying95 u G) (lg i (U5 u u) (lv (m9 u i u) (i5 ?_))))))))
  cases oi I
  exact qd ⟨K,u,k.f1,kr⟩
 rintro _ bL ⟨y,rfl,U,s⟩
 refine l4 (D0 ah u (fun ai J=>?_) (fun ai J=>?_))
 ·refine sr (lv (M7 u) (nq (rr ?_)))
  cases oi J
  exact ey results98 ⟨y,u,U.s⟩
 refine i8 (qs (sr (lv (R1 u) (nq ?_))))
 obtain⟨aj,ak,C⟩:=ob J
 refine j9 (IE aj w K [] y [] []) ?_ ?_
 ·refine i7 ?_
  obtain⟨bM,al,V⟩:=ob ak
  refine qw (fun (D:Int)=>IW w K [] y [(2,pt m),(3,pt o),(5,V6 D)] [r5 m [sv q0.Field,sv q0.Term,V3 A a b] 97,r5 o [sv q1.Field,sv q1.Term,V3 B c d] 97] (j5 D)) al ⟨y,u,U,kr,R3⟩ ?_
  rintro D _ bN bO am W ⟨X,rfl,O,q,bP⟩
  refine n9 (sr (mv u (fl X0 u a3X m0 O u (lv (p7 underlying95 u (x.mono (s.trans q))) (lv (o4 u u) (nq (D0 am u (fun an R=>?_) (fun an R=>?_))))))))
  ·refine i8 (qs (i7 (n9 ?_)))
   obtain⟨ao,ap,aq⟩:=ob R
   refine j9 (IV w K [] X [(2,pt m),(3,pt o),(5,V6 D),(62,.bool ao)] [r5 m [sv q0.Field,sv q0.Term,V3 A a b] 97,r5 o [sv q1.Field,sv q1.Term,V3 B c d] 97]) ?_ ?_
   ·refine D3 mixed (by kernel_rfl) O (kv (c7 X0 u) (kh (u9 a3X u m0 u) (km u ?_)))
    obtain⟨ar,au,aw⟩:=ob ap
    refine ki underlying95 T2 (x.mono (s.trans q)) au fun ax ay bQ az aA=>?_
    obtain⟨aB,aC,aD,rfl,bR,bS⟩:=az
    have aE:D7 _ ax ay [V6 ar.Doc,V3 aB aC aD]:=aA
    refine kv (c7 a4J u) (kh (z7 G4 u (aE 0 _ u)) (kv (c7 X0 u) (kh (u9 a3X u m1 u) (km u ?_))))
    obtain⟨aF,aG,aH⟩:=ob aw
    refine ki underlying95 T2 (G.mono (s.trans q)) aG fun aI aJ bT aK aL=>?_
    obtain⟨aM,aN,aO,rfl,bU,bV⟩:=aK
    have aP:D7 _ aI aJ [V6 aF.Doc,V3 aM aN aO]:=aL
    refine kv (c7 a4J u) (kh (z7 G4 u (aP 0 _ u)) (kv (U5 u u) (km u (bt aH (fun f S=>?_) (fun f S=>?_)))))
    ·iterate 14 refine kn f ?_
     refine kv (L1 u f u) (A3 ?_)
     rintro bW ⟨aQ,aR,aS⟩
     cases oi S
     exact qd ⟨aQ,u,aR,aS⟩
    refine kg f (c7 X0 u) (kgh f (u9 a3X u m0 u) (kg f (i4 u) ?_))
    obtain⟨aT,aU,aV⟩:=ob S
    refine A8 (t:=P8) (wg u u f) u underlying95 T2 u u (x.mono (s.trans q)) aU fun aW aX bX aY aZ=>?_
    obtain⟨ba,bb,bc,rfl,bY,bd⟩:=aY
    have be:D7 _ aW aX [V6 aT.Doc,V3 ba bb bc]:=aZ
    refine kg f (c7 a3A u) (kgh f (z7 a4E u (be 1 _ u)) (kg f (c7 X0 u) (kgh f (u9 a3X u m1 u) (kg f (i4 u) ?_))))
    obtain⟨bf,bg,bh⟩:=ob aV
    refine A8 (t:=P8) (wg u u f) u underlying95 T2 u u (G.mono (s.trans q)) bg fun bi bj bZ bk bl=>?_
    obtain⟨bm,bn,bo,rfl,ca,bp⟩:=bk
    have bq:D7 _ bi bj [V6 bf.Doc,V3 bm bn bo]:=bl
    refine kg f (c7 a3A u) (kgh f (z7 a4E u (bq 1 _ u)) ?_)
    obtain⟨cb,br,bs⟩:=ob bh
    refine kcg f b9u (fun _ _ bu Y=>(a5v F) bu.enter0 (bd.mono Y) (bp.mono Y) br) (kg f (y3 u) (kv (m9 u f u) (A3 ?_)))
    rintro cc ⟨bv,bz,bA⟩
    cases oi bs
    exact qd ⟨bv,u,bz,bA⟩
   rintro _ cd ⟨aa,rfl,ab,bB⟩
   refine l4 (D0 aq u (fun bC T=>?_) (fun bC T=>?_))
   ·refine sr (lv (M7 u) (nq (l7 (j4 (g6 (g6 ?_))))))
    cases oi T
    cases W _ u
    refine j4 (g6 ?_)
    cases oi V
    refine g6 ?_
    cases oi C
    exact ey results98 ⟨aa,u,ab.s⟩
   refine i8 (q7 (l4 (j3 (mv u (lv (u6 u u) (av u (i5 ?_)))))))
   cases oi T
   exact qd ⟨_,u,aa,u,ab,(q.trans bB),(s6 _)⟩
  refine p9 (c9 (c9 ?_))
  cases oi R
  cases W _ u
  refine j7 ?_
  cases oi V
  exact I6 ⟨_,X,u,u,O.s,q⟩ trivial
 rintro _ ce ⟨cf,bD,rfl,rfl,bE,cg⟩
 have C:=D9 C
 refine qr (lv (r_t u) (nq (l7 ?_)))
 cases oi C
 exact ey results98 ⟨bD,u,bE⟩

theorem T4 {q0:J8}{q1:l3}{r:(List l3)}(hS:SH w K Z w K [r5 g1 [V3 A a b,V3 B c d,V3 C f i,V3 D k l] 161])(aS:b7 B3 K A a b q0.c_.Stops)(aT:b7 G5 K B c d q0.c_.Syns)(aU:b7 E5 K C f i q0.s_.Docs)(O:b7 B4 K D k l q0.s_.Entries)(aV:q1.length≤maxLen)(hm:E2 F q0 q1=some r):
  Calls prog 148 #[.pointer (some ⟨g1,2,none⟩),sv q1] w fun e w'=>∃a_1 n_2 c_3 K',e= .returned (V3 a_1 n_2 c_3)∧SH w K Z w' K' [tail (V3 a_1 n_2 c_3) 9 1,r5 g1 [V3 A a b,V3 B c d,V3 C f i,V3 D k l] 161]∧b7 B3 K' a_1 n_2 c_3 r:=by
 rw [E2] at hm
 refine ci func148 u ntmps148 (sr (lv (r_n u) (nr (b0 B3 underlying22 D8 hS fun af aW V R ag Y=>(av u (Q9 (mv u (lv (u7 u) (fl P7 u a2A m1 Y u ?_)))))))))
 refine lv (p7 underlying41 u (O.mono R)) (lv (r_m u) (nq ?_))
 obtain⟨ah,ai,aj⟩:=ob hm
 refine j9 (fun E' w'=>∃y G H I,E'=[(0,.pointer (some ⟨g1,2,none⟩)),(5,V3 y G H)]∧SH w K Z w' I [r5 g1 [V3 A a b,V3 B c d,V3 C f i,V3 D k l] 161,tail (V3 y G H) 9 1]∧H7 V I∧b7 B3 I y G H ah) ?_ ?_
 ·refine i7 ?_
  obtain⟨aX,ak,am⟩:=ob ai
  refine qF (fun (aa:Nat) (W:(List l3)) E' w'=>∃m o q s,E'=[(0,.pointer (some ⟨g1,2,none⟩)),(1,sv q1),(5,V3 m o q),(12,V3 D k l),(13,V6 (q0.s_.Entries.length:Int)),(14,V6 ((aa:Nat):Int))]∧SH w K Z w' s [r5 g1 [V3 A a b,V3 B c d,V3 C f i,V3 D k l] 161,tail (V3 m o q) 9 1]∧H7 V s∧b7 B3 s m o q W) ak ⟨af,0,0,V,u,Y.f1,kr,ag⟩ ?_ ?_
  ·rintro aa W _ an aY hi51 ao ⟨m,o,q,s,rfl,S,J,T⟩
   refine sr (lv (o4 u u) (ns (y5 u (b8 (by omega)) (i8 (l4 (n9 (i7 (sr ?_))))))))
   obtain⟨x,ap,aq⟩:=ob ao
   refine li underlying41 P9 (O.mono (R.trans J)) ap fun ar au aZ aw ax=>?_
   obtain⟨ab,ac,ad,rfl,ba,ay,bb⟩:=aw
   have az:D7 _ ar au [sv x.Field,sv x.Term,V3 ab ac ad]:=ax
   refine lv (C9 P9 u S az u) (al P9 S fun aA bc aB=>?_)
   have aC:SH _ _ _ _ _ [r5 aA [sv [],sv [],V3 none 0 0] 97,_,_]:=aB
   refine lw [sv x.Field,sv x.Term,V3 ab ac ad] P9 aC fun bd U=>(nr (fl a3B u D8 m0 U u (mv u (lv (J4 u u) (nq (D0 aq u (fun aD X=>?_) (fun aD X=>?_)))))))
   ·refine j3 (mv u (fl a2P u D8 m0 U u (lb B3 (sv x.Term) [sv x.Term] x.Term underlying22 D8 ⟨u,ay⟩ U fun be bf bg ae aE aF=>?_)))
    obtain⟨bh,aG,aH⟩:=ob X
    refine lp underlying22 D8 (T.mono ae) aE aG aF.f3 fun aI aJ aK bi aL aM aN aO=>(av u (nb (qg (lv (u3 u u (x9 hi51 (b7.max (O.mono R)))) (mv u (i5 ?_))))))
    cases oi aH
    exact qd ⟨aI,aJ,aK,aL,u,aO.f3.s,((J.trans ae).trans aM),aN⟩
   refine i8 (q7 (qg (lv (u3 u u (x9 hi51 (b7.max (O.mono R)))) (mv u (i5 ?_)))))
   cases oi X
   exact qd ⟨m,o,q,s,u,U.s,J,T⟩
  rintro W _ an aP ⟨m,o,q,s,rfl,S,J,T⟩
  subst aP
  refine sr (lv (o4 u u) (ns (y4 u (c6 (by omega)) (p9 (c9 (c9 (j7 ?_)))))))
  cases oi am
  exact qd ⟨m,o,q,s,u,S,J,T⟩
 rintro _ bj ⟨y,G,H,I,rfl,aQ,bk,aR⟩
 refine qr (mv u (av u (nq (l7 ?_))))
 cases oi aj
 exact ey results148 ⟨y,G,H,I,u,aQ.f1,aR⟩

theorem b0G {q0:List Int}{q1:Int}{r:Bool}(hS:SH w K [] w K [])(o:b7 F2 K A a b q0)(X:j5 q1)(hm:a1M F q0 q1=some r):
  Calls prog 21 #[V3 A a b,V6 q1] w (R_b w K r):=by
 rw [a1M] at hm
 refine ci func21 u ntmps21 (sr (lv (M7 u) (Q9 (lv (R1 u) (nq ?_)))))
 obtain⟨x,y,c⟩:=ob hm
 refine j9 (IE x w K [] K [] []) ?_ ?_
 ·refine i7 ?_
  obtain⟨Y,B,q⟩:=ob y
  refine qw (fun (i:Int)=>IW w K [] K [(0,V3 A a b),(1,V6 q1),(5,V6 i)] [] (j5 i)) B ⟨K,u,hS,kr,R3⟩ ?_
  rintro i _ aa ab C s ⟨k,rfl,d,f,ac⟩
  refine n9 (sr (mv u (mv u (lv (p7 underlying30 u (o.mono f)) (lv (o4 u u) (nq (D0 C u (fun D l=>?_) (fun D l=>?_))))))))
  ·refine i8 (qs (i7 (sr (mv u (mv u ?_)))))
   obtain⟨G,H,I⟩:=ob l
   refine li underlying30 G4 (o.mono f) H fun J O ad R S=>?_
   obtain⟨rfl,ae⟩:=R
   have T:D7 _ J O [V6 G]:=S
   refine lv (z2 G4 u d (T 0 _ u)) (mv u (lv (F7 u u) (nq (D0 I u (fun U m=>?_) (fun U m=>?_)))))
   ·refine sr (lv (r_t u) (nq (l7 (j4 (g6 (g6 ?_))))))
    cases oi m
    cases s _ u
    refine j4 (g6 ?_)
    cases oi q
    refine g6 ?_
    cases oi c
    exact ey results21 ⟨k,u,d⟩
   refine i8 (q7 (l4 (j3 (mv u (lv (u6 u u) (av u (i5 ?_)))))))
   cases oi m
   exact qd ⟨_,u,k,u,d,f,(s6 _)⟩
  refine p9 (c9 (c9 ?_))
  cases oi l
  cases s _ u
  refine j7 ?_
  cases oi q
  exact I6 ⟨_,k,u,u,d,f⟩ trivial
 rintro _ af ⟨s9,V,rfl,rfl,W,ah⟩
 have c:=D9 c
 refine qr (lv (M7 u) (nq (l7 ?_)))
 cases oi c
 exact ey results21 ⟨V,u,W⟩
end Go.Proofs.YtpdfkjjmcnhakaaGreatDoor
