/-
 Walks of the functions. Printed by gen.py.
-/
import Derived.Test.YtepcfgnicnibnaaGreatDoorFacts
set_option linter.unusedVariables false
set_option linter.unusedSectionVars false
set_option maxRecDepth 100000
namespace Go.Proofs.YtepcfgnicnibnaaGreatDoor
set_option maxHeartbeats 4000000
open Go Go.Fk Go.RowKit Tryz
variable (F:Nat){w:World}{K:F0}{Z:List Nat}{g1 g2 g3:Nat}{A B C D G H I J O R S T:Option Addr}{a b c d f i k l m n o p q s v x y aa ab ac ad ae af ag:Nat}
variable [dr:Dr]

theorem y8 {q0:z2}{q1:Int}{r:Int×z2}(hS:SH w K Z w K [u9 g1 [V3 A a b,V6 q0.p_] 156])(c:b7 tU8 K A a b q0.b_)(aF:i7 q0.p_)(aG:i7 q1)(hm:y6 F q0 q1=some r):
  Calls prog 58 #[.pointer (some ⟨g1,0,none⟩),V6 q1] w fun e w'=>∃a_2 n_3 c_4 K',e= .returned (V6 r.1)∧SH w K Z w' K' [u9 g1 [V3 a_2 n_3 c_4,V6 r.2.p_] 156]∧i7 r.1∧b7 tU8 K' a_2 n_3 c_4 r.2.b_∧i7 r.2.p_:=by
 rw [y6] at hm
 refine ci func58 u ntmps58 (sr (lv (N4 u) (nr (mv u (mv u (lv (B3 u) (fl b5u u E4 m0 hS u (lv (y4 u u) (lv (B3 u) ?_)))))))))
 refine fa b5u u (ls [V3 A a b,V6 (A1 (q0.p_+(1:Int)))] (V6 (A1 (q0.p_+(1:Int)))) E4 hS fun w9 k=>(ns (p9 ?_)))
 obtain⟨y,B,C⟩:=ob hm
 refine l6 (IV w K Z K [(0,pt g1),(1,V6 q1),(24,.bool y)] [u9 g1 [V3 A a b,V6 (A1 (q0.p_+(1:Int)))] 156]) ?_ ?_
 ·refine j3 (mv u (lv (s7 u u) (mv u (bt B (fun d l=>?_) (fun d l=>?_)))))
  ·iterate 6 refine lu d ?_
   refine lv (L8 u d u) (i8 ?_)
   cases oi l
   exact qd ⟨K,u,k,kr⟩
  refine lg d (i5 u) (lg d (B3 u) (lg d (c9 a5K u) (lg d (u6 b7N u m0 k u) (lg d (q7 underlying22 u c) (lg d (A6 u u) (lv (o4 u d u) (i8 ?_)))))))
  cases oi l
  exact qd ⟨K,u,k,kr⟩
 rintro _ aI ⟨q,rfl,i,f⟩
 refine l4 (D4 C u (fun D m=>?_) (fun D m=>?_))
 ·refine sr (lv (N4 u) (nq (rr ?_)))
  cases oi m
  exact ey results58 ⟨A,a,b,q,u,i,M1,(c.mono f),(s6 _)⟩
 refine j5 (qr (mv u (lv (B3 u) (fl b5u u E4 m0 i u (lv (H2 u u) (av u (P6 (mv u (mv u ?_)))))))))
 refine lv (B3 u) (fl a5K u b7N m0 i u (lv (q7 underlying22 u (c.mono f)) (lv (s7 u u) (nq (D4 m u (fun G o=>?_) (fun G o=>?_))))))
 ·refine sr (mv u (lv (B3 u) (fl a5K u b7N m0 i u (mv u ?_))))
  obtain⟨H,I,J⟩:=ob o
  refine li underlying22 tf5 (c.mono f) I fun O R aJ S T=>?_
  obtain rfl:=S
  have U:E9 _ O R [iv8 H]:=T
  refine lv (y7 tf5 u i (U 0 _ u)) (lv (b8x underlying5 underlying3 u) (mv u ?_))
  obtain⟨aK,s,V⟩:=ob J
  refine lv (a6U u u s) (av u (nq (rr ?_)))
  cases oi V
  exact ey results58 ⟨A,a,b,q,u,i,(b2E (c5p _) s),(c.mono f),(s6 _)⟩
 refine j5 (qs (E1 mixed (by kernel_rfl) i (km u (kv (B3 u) (kv (c9 a5K u) (kh (z6 b7N u m0 u) (km u (km u (kv (B3 u) ?_)))))))))
 refine kv (c9 a5K u) (kh (z6 b7N u m0 u) (kv (q7 underlying22 u (c.mono f)) ?_))
 obtain⟨aL,W,X⟩:=ob o
 refine kv (a6U u u W) ?_
 obtain⟨Y,aa,ab⟩:=ob X
 refine ki underlying22 tf5 (c.mono f) aa fun ac ad aM ae af=>?_
 obtain rfl:=ae
 have ag:E9 _ ac ad [iv8 Y]:=af
 refine kh (B6 tf5 u (ag 0 _ u)) (kv (b8x underlying5 underlying3 u) (kv (U9 u u) (km u (kv (B3 u) (kv (c9 a5K u) (kh (z6 b7N u m0 u) (km u (kv (U9 u u) (kv (y4 u u) ?_)))))))))
 refine km u (kv (B3 u) (kv (c9 a5K u) (kh (z6 b7N u m0 u) (kv (q7 underlying22 u (c.mono f)) ?_))))
 obtain⟨aN,ah,ai⟩:=ob ab
 refine kv (a6U u u ah) ?_
 obtain⟨aj,ak,al⟩:=ob ai
 refine ki underlying22 tf5 (c.mono f) ak fun am an aO ao ap=>?_
 obtain rfl:=ao
 have aq:E9 _ am an [iv8 aj]:=ap
 refine kh (B6 tf5 u (aq 0 _ u)) (kv (b8x underlying5 underlying3 u) (kv (U9 u u) (kv (y4 u u) (km u (kv (U9 u u) (kv (y4 u u) (km u (km u (kv (B3 u) ?_)))))))))
 refine kv (c9 a5K u) (kh (z6 b7N u m0 u) (kv (q7 underlying22 u (c.mono f)) ?_))
 obtain⟨aP,ar,au⟩:=ob al
 refine kv (a4i u u ar) (kv (U9 u u) (kv (y4 u u) ?_))
 obtain⟨aQ,aw,ax⟩:=ob au
 have ay:=oi aw
 refine kv (b9H u (congrArg (Value.int .i64) ay)) (B7 ?_)
 rintro aR ⟨az,aA,aB⟩
 refine qr (mv u (mv u ?_))
 obtain⟨aS,aC,aD⟩:=ob ax
 refine lv (a4i u u aC) (lv (c5w u u) (av u (nr (mv u (mv u ?_)))))
 obtain⟨aT,x,aE⟩:=ob aD
 refine lv (a6U u u x) (av u (nq (l3 ?_)))
 cases oi aE
 exact ey results58 ⟨A,a,b,az,u,aA,(b2E (s6 _) x),(c.mono (f.trans aB)),(s6 _)⟩

theorem a8P {q0:List q9}{q1:q9}{r:(List q9)}(hS:SH w K Z w K [tail (V3 A a b) 9 1])(f:b7 D8 K A a b q0)(T:q1.length≤maxLen)(hm:a0j F q0 q1=some r):
  Calls prog 244 #[V3 A a b,sv q1] w fun e w'=>∃a_1 n_2 c_3 K',e= .returned (V3 a_1 n_2 c_3)∧SH w K Z w' K' [tail (V3 a_1 n_2 c_3) 9 1]∧b7 D8 K' a_1 n_2 c_3 r:=by
 rw [a0j] at hm
 refine ci func244 u ntmps244 (sr (lv (r_n u) (nr (lv (N4 u) (ns ?_)))))
 obtain⟨m,U,V⟩:=ob hm
 refine l6 (IW w K Z K [(0,V3 A a b),(1,sv q1),(5,V6 m)] [tail (V3 A a b) 9 1] (i7 m)) ?_ ?_
 ·refine j7 ?_
  obtain⟨bg,W,X⟩:=ob U
  refine qw (fun (k:Int)=>IW w K Z K [(0,V3 A a b),(1,sv q1),(5,V6 k)] [tail (V3 A a b) 9 1] (i7 k)) W ⟨K,u,hS,kr,M1⟩ ?_
  rintro k _ bh bi Y aa ⟨o,rfl,q,l,ab⟩
  refine p9 (p9 ?_)
  obtain⟨ac,ad,ae⟩:=ob Y
  refine l6 (IV w K Z o [(0,V3 A a b),(1,sv q1),(5,V6 k),(18,.bool ac)] [tail (V3 A a b) 9 1]) ?_ ?_
  ·refine j3 (mv u (mv u (lv (q7 underlying23 u (f.mono l)) (lv (s7 u u) (mv u (bt ad (fun c s=>?_) (fun c s=>?_)))))))
   ·refine lg c (i5 u) (lg c (i5 u) ?_)
    obtain⟨af,ag,ah⟩:=ob s
    refine I3 (t:=D8) (wg u u c) u underlying23 H3 u u (f.mono l) ag fun ai aj bj ak al=>?_
    obtain⟨rfl,bk⟩:=ak
    have am:E9 _ ai aj [sv af]:=al
    refine lg c (y7 H3 u q (am 0 _ u)) (lg c (i5 u) (lg c (b9K u u) (lv (o0 u c u) (i8 ?_))))
    cases oi ah
    exact qd ⟨o,u,q,kr⟩
   iterate 6 refine lu c ?_
   refine lv (J6 u c u) (i8 ?_)
   cases oi s
   exact qd ⟨o,u,q,kr⟩
  rintro _ bl ⟨H,rfl,I,J⟩
  refine l4 (D4 ae u (fun an x=>?_) (fun an x=>?_))
  ·refine j5 (l4 (j7 (j3 (mv u (lv (y4 u u) (av u (nb ?_)))))))
   cases oi x
   exact qd ⟨_,u,H,u,I,(l.trans J),(s6 _)⟩
  refine w8 (g6 (g6 ?_))
  cases oi x
  cases aa _ u
  refine l5 ?_
  cases oi X
  exact qd ⟨H,u,I,(l.trans J),ab⟩
 rintro _ bm ⟨y,rfl,B,i,bn⟩
 refine qs (p9 ?_)
 obtain⟨ao,ap,aq⟩:=ob V
 refine l6 (IV w K Z y [(0,V3 A a b),(1,sv q1),(5,V6 m),(32,.bool ao)] [tail (V3 A a b) 9 1]) ?_ ?_
 ·refine j3 (mv u (mv u (lv (q7 underlying23 u (f.mono i)) (lv (s7 u u) (mv u (bt ap (fun d C=>?_) (fun d C=>?_)))))))
  ·refine lg d (i5 u) (lg d (i5 u) ?_)
   obtain⟨ar,au,aw⟩:=ob C
   refine I3 (t:=D8) (wg u u d) u underlying23 H3 u u (f.mono i) au fun ax ay bo az aA=>?_
   obtain⟨rfl,bp⟩:=az
   have aB:E9 _ ax ay [sv ar]:=aA
   refine lg d (y7 H3 u B (aB 0 _ u)) (lg d (i5 u) (lg d (M3 u u) (lv (o0 u d u) (i8 ?_))))
   cases oi aw
   exact qd ⟨y,u,B,kr⟩
  iterate 6 refine lu d ?_
  refine lv (J6 u d u) (i8 ?_)
  cases oi C
  exact qd ⟨y,u,B,kr⟩
 rintro _ bq ⟨aC,rfl,O,D⟩
 refine l4 (D4 aq u (fun aD G=>?_) (fun aD G=>?_))
 ·refine sr (mv u (av u (nq (rr ?_))))
  cases oi G
  exact ey results244 ⟨A,a,b,aC,u,O,(f.mono (i.trans D))⟩
 refine j5 (qr (b0 D8 underlying23 H3 O fun br bs bu R aE aF=>(mv u (mv u ?_))))
 obtain⟨bv,aG,aH⟩:=ob G
 refine a63 (t:=D8) wn u underlying23 H3 u u (f.mono ((i.trans D).trans R)) aG fun bx bz bA aI=>?_
 obtain⟨bB,aJ,aK⟩:=ob aH
 refine lp underlying23 H3 aE aI aJ aF fun bC bD bE bF bG aL aM aN=>(av u (nr (mv u (mv u (lb D8 (sv q1) [sv q1] q1 underlying23 H3 ⟨u,T⟩ aN fun bH bI bJ S aO aP=>?_)))))
 obtain⟨bK,aQ,aR⟩:=ob aK
 refine lp underlying23 H3 (aM.mono S) aO aQ aP.f1 fun bL bM bN bO bP aS aT aU=>(av u (nr (mv u (mv u (mv u ?_)))))
 obtain⟨bQ,aV,aW⟩:=ob aR
 refine a64 (t:=D8) wn u underlying23 H3 u u (b7.mono (((((i.trans D).trans R).trans aL).trans S).trans aS) f) aV fun bR bS bT aX=>?_
 obtain⟨bU,aY,aZ⟩:=ob aW
 refine lp underlying23 H3 aT aX aY aU fun ba bb bc bV bd bW be bf=>(av u (nq (l3 ?_)))
 cases oi aZ
 exact ey results244 ⟨ba,bb,bc,bd,u,bf.s,be⟩

theorem b2h {q0:List y5}{r:(List q9)}(hS:SH w K [] w K [])(S:b7 F8 K A a b q0)(hm:a2g F q0=some r):
  Calls prog 176 #[V3 A a b] w fun e w'=>∃a_1 n_2 c_3 K',e= .returned (V3 a_1 n_2 c_3)∧SH w K [] w' K' [tail (V3 a_1 n_2 c_3) 9 1]∧b7 D8 K' a_1 n_2 c_3 r:=by
 rw [a2g] at hm
 refine ci func176 u ntmps176 (sr (lv (r_n u) (nr (b0 D8 underlying23 H3 hS fun a5 w6 T U ae af=>(av u (P6 (lv (N4 u) (nq ?_))))))))
 obtain⟨ag,ah,ai⟩:=ob hm
 refine l6 (fun E' w'=>∃m o q s,E'=[(3,V3 m o q)]∧SH w K [] w' s [tail (V3 m o q) 9 1]∧I9 T s∧b7 D8 s m o q ag) ?_ ?_
 ·refine j7 ?_
  obtain⟨bC,aj,ak⟩:=ob ah
  refine qw (fun (d:(List q9)×Int) E' w'=>∃f i k c,E'=[(0,V3 A a b),(3,V3 f i k),(4,V6 d.2)]∧SH w K [] w' c [tail (V3 f i k) 9 1]∧I9 T c∧b7 D8 c f i k d.1∧i7 d.2) aj ⟨a5,0,0,T,u,af,kr,ae,M1⟩ ?_
  rintro d _ bD bE al am ⟨f,i,k,c,rfl,X,x,Y,bF⟩
  refine p9 (sr (mv u (mv u (lv (q7 underlying27 u (S.mono (U.trans x))) (lv (s7 u u) (nq (D4 al u (fun an V=>?_) (fun an V=>?_))))))))
  ·refine j5 (qs (j7 (sr (lv (N4 u) (nq ?_)))))
   obtain⟨ao,ap,aq⟩:=ob V
   refine l6 (fun E' w'=>∃y B C D,E'=[(0,V3 A a b),(3,V3 y B C),(4,V6 d.2)]∧SH w K [] w' D [tail (V3 y B C) 9 1]∧I9 c D∧b7 D8 D y B C ao) ?_ ?_
   ·refine j7 ?_
    obtain⟨bG,ar,au⟩:=ob ap
    refine qw (fun (O:(List q9)×Int) E' w'=>∃G H I J,E'=[(0,V3 A a b),(3,V3 G H I),(4,V6 d.2),(5,V6 O.2)]∧SH w K [] w' J [tail (V3 G H I) 9 1]∧I9 c J∧b7 D8 J G H I O.1∧i7 O.2) ar ⟨f,i,k,c,u,X,kr,Y,M1⟩ ?_
    rintro O _ bH bI aw ax ⟨G,H,I,J,rfl,l,R,aa,bJ⟩
    refine p9 (sr (mv u (mv u (mv u ?_))))
    obtain⟨ay,az,aA⟩:=ob aw
    refine li underlying27 F7 (S.mono ((U.trans x).trans R)) az fun aB aC bK aD aE=>?_
    obtain⟨aF,aG,aH,aI,aJ,aK,rfl,bL,aL,bM⟩:=aD
    have aM:E9 _ aB aC [V6 ay.Id,V3 aF aG aH,V3 aI aJ aK]:=aE
    refine fa a0R u (lv (y7 a6E u l (aM 1 _ u)) (lv (q7 underlying64 u aL) (lv (s7 u u) (nq (D4 aA u (fun aN W=>?_) (fun aN W=>?_))))))
    ·refine j5 (qs (j7 (j3 (mv u (mv u (mv u ?_))))))
     obtain⟨aO,aP,aQ⟩:=ob W
     refine li underlying27 F7 (S.mono ((U.trans x).trans R)) aP fun aR aS bN aT aU=>?_
     obtain⟨aV,aW,aX,aY,aZ,ba,rfl,bO,bb,bP⟩:=aT
     have bc:E9 _ aR aS [V6 aO.Id,V3 aV aW aX,V3 aY aZ ba]:=aU
     refine fa a0R u (lv (y7 a6E u l (bc 1 _ u)) (mv u ?_))
     obtain⟨ab,bd,be⟩:=ob aQ
     refine li underlying64 S1 bb bd fun bf bg bQ bh bi=>?_
     obtain⟨rfl,bj,bR⟩:=bh
     have bk:E9 _ bf bg [sv ab.Name,sv ab.Text]:=bi
     refine fa a4p u (lv (y7 H3 u l (bk 0 _ u)) ?_)
     obtain⟨bS,bl,bm⟩:=ob be
     refine lk c4j (a8P F l.e1 aa bj bl) ?_
     rintro bT bU ⟨bn,bo,bp,bq,rfl,ac,br⟩
     have bs:=(l.c1 ac).t1
     refine av u (nb (l4 (j3 (mv u (lv (y4 u u) (av u (i8 ?_)))))))
     cases oi bm
     exact qd ⟨_,u,bn,bo,bp,bq,u,bs,(R.trans ac.le),br,(s6 _)⟩
    refine w8 (g6 (g6 ?_))
    cases oi W
    cases ax _ u
    refine l5 ?_
    cases oi au
    exact qd ⟨G,H,I,J,u,l,R,aa⟩
   rintro _ bV ⟨y,B,C,D,rfl,bu,bv,bx⟩
   refine x9 (l4 (j3 (mv u (lv (y4 u u) (av u (i8 ?_))))))
   cases oi aq
   exact qd ⟨_,u,y,B,C,D,u,bu,(x.trans bv),bx,(s6 _)⟩
  refine w8 (g6 (g6 ?_))
  cases oi V
  cases am _ u
  refine l5 ?_
  cases oi ak
  exact qd ⟨f,i,k,c,u,X,x,Y⟩
 rintro _ bW ⟨m,o,q,s,rfl,bz,bX,bA⟩
 refine qr (mv u (av u (nq (l3 ?_))))
 cases oi ai
 exact ey results176 ⟨m,o,q,s,u,bz,bA⟩

theorem b0R {q0:List C8}{q1:List q9}{r:Bool}(hS:SH w K [] w K [])(l:b7 P5 K A a b q0)(C:b7 D8 K B c d q1)(hm:a0h F q0 q1=some r):
  Calls prog 213 #[V3 A a b,V3 B c d] w (R_b w K r):=by
 rw [a0h] at hm
 refine ci func213 u ntmps213 (sr (lv (P2 u) (P6 (lv (N4 u) (nq ?_)))))
 obtain⟨U,V,m⟩:=ob hm
 refine l6 (IE U w K [] K [] []) ?_ ?_
 ·refine j7 ?_
  obtain⟨aW,W,D⟩:=ob V
  refine qw (fun (o:Int)=>IW w K [] K [(0,V3 A a b),(1,V3 B c d),(5,V6 o)] [] (i7 o)) W ⟨K,u,hS,kr,M1⟩ ?_
  rintro o _ aX aY X G ⟨H,rfl,I,k,aZ⟩
  refine p9 (sr (mv u (mv u (lv (q7 underlying23 u (C.mono k)) (lv (s7 u u) (nq (D4 X u (fun Y q=>?_) (fun Y q=>?_))))))))
  ·refine j5 (qs (j7 (p9 ?_)))
   obtain⟨aa,ab,ac⟩:=ob q
   refine l6 (IV w K [] H [(0,V3 A a b),(1,V3 B c d),(5,V6 o),(41,.bool aa)] []) ?_ ?_
   ·refine E1 mixed (by kernel_rfl) I (km u (km u (kv (q7 underlying122 u (l.mono k)) (kv (a3S u u) (km u (bt ab (fun i s=>?_) (fun i s=>?_)))))))
    ·iterate 10 refine kn i ?_
     refine kv (L8 u i u) (km u ?_)
     iterate 12 refine qv u u u u ?_
     refine kv (L8 u u u) (B7 ?_)
     rintro ba ⟨ad,ae,af⟩
     cases oi s
     exact qd ⟨ad,u,ae,af⟩
    refine kg i (i5 u) (kg i (i5 u) ?_)
    obtain⟨J,ag,ah⟩:=ob s
    refine D2 (t:=P5) (wg u u i) u underlying122 J8 u u (l.mono k) ag fun ai aj bb ak al=>?_
    obtain⟨rfl,bc,bd⟩:=ak
    have am:E9 _ ai aj [sv J.Text,V6 J.At]:=al
    refine kg i (c9 a3b u) (kgh i (B6 H3 u (am 0 _ u)) (kg i (i5 u) (kg i (i5 u) ?_)))
    obtain⟨an,ao,ap⟩:=ob ah
    refine D2 (t:=D8) (wg u u i) u underlying23 H3 u u (C.mono k) ao fun aq ar be au aw=>?_
    obtain⟨rfl,bf⟩:=au
    have ax:E9 _ aq ar [sv an]:=aw
    refine kgh i (B6 H3 u (ax 0 _ u)) (kg i (a1V u u) (kv (o4 u i u) (km u (bt ap (fun f x=>?_) (fun f x=>?_)))))
    ·iterate 12 refine kn f ?_
     refine kv (L8 u f u) (B7 ?_)
     rintro bg ⟨ay,az,aA⟩
     cases oi x
     exact qd ⟨ay,u,az,aA⟩
    refine kg f (i5 u) (kg f (i5 u) ?_)
    obtain⟨O,aB,aC⟩:=ob x
    refine D2 (t:=P5) (wg u u f) u underlying122 J8 u u (l.mono k) aB fun aD aE bh aF aG=>?_
    obtain⟨rfl,bi,bj⟩:=aF
    have aH:E9 _ aD aE [sv O.Text,V6 O.At]:=aG
    refine kg f (c9 a3c u) (kgh f (B6 E4 u (aH 1 _ u)) (kg f (i5 u) ?_))
    obtain⟨R,aI,aJ⟩:=ob aC
    refine D2 (t:=P5) (wg u u f) u underlying122 J8 u u (l.mono k) aI fun aK aL bk aM aN=>?_
    obtain⟨rfl,bl,bm⟩:=aM
    have aO:E9 _ aK aL [sv R.Text,V6 R.At]:=aN
    refine kg f (c9 a3c u) (kgh f (B6 E4 u (aO 1 _ u)) (kg f (i5 u) (kg f (y4 u u) (kg f (S7 u u) (kv (o4 u f u) (B7 ?_))))))
    rintro bn ⟨aP,aQ,aR⟩
    cases oi aJ
    exact qd ⟨aP,u,aQ,aR⟩
   rintro _ bo ⟨S,rfl,T,aS⟩
   refine l4 (D4 ac u (fun aT y=>?_) (fun aT y=>?_))
   ·refine sr (lv (P2 u) (nq (l3 (j6 (g8 (g8 ?_))))))
    cases oi y
    cases G _ u
    refine j6 (g8 ?_)
    cases oi D
    refine g8 ?_
    cases oi m
    exact ey results213 ⟨S,u,T⟩
   refine j5 (x9 (l4 (j3 (mv u (lv (y4 u u) (av u (i8 ?_)))))))
   cases oi y
   exact qd ⟨_,u,S,u,T,(k.trans aS),(s6 _)⟩
  refine w8 (g6 (g6 ?_))
  cases oi q
  cases G _ u
  refine l5 ?_
  cases oi D
  exact H9 ⟨_,H,u,u,I,k⟩ trivial
 rintro _ bp ⟨bq,aU,rfl,rfl,aV,br⟩
 have m:=F6 m
 refine qr (lv (r_t u) (nq (l3 ?_)))
 cases oi m
 exact ey results213 ⟨aU,u,aV⟩

theorem b4c {q0:u5}{q1:List C8}{r:Int}(hS:SH w K [] w K [])(bn:b7 D8 K A a b q0.Stops)(s:b7 L0 K B c d q0.Syns)(V:b7 P5 K C f i q1)(hm:a3E F q0 q1=some r):
  Calls prog 146 #[.agg #[V3 A a b,V3 B c d],V3 C f i] w (R_i w K r):=by
 rw [a3E] at hm
 refine ci func146 u ntmps146 (sr (bx u hS fun q bo W=>?_))
 have X:SH _ _ _ _ _ [u9 q [V3 A a b,V3 B c d] 26]:=W
 refine lv (N4 u) (nr (lv (x8 (v:=V6 (-1)) u) (P6 (lv (N4 u) (nq ?_)))))
 obtain⟨I,Y,aa⟩:=ob hm
 refine l6 (IW w K [] K [(5,V6 I)] [] (i7 I)) ?_ ?_
 ·refine j7 ?_
  obtain⟨bp,ab,ac⟩:=ob Y
  refine qw (fun (o:Int×Int)=>IW w K [] K [(1,V3 C f i),(2,pt q),(5,V6 o.1),(6,V6 o.2)] [u9 q [V3 A a b,V3 B c d] 26] (i7 o.1∧i7 o.2)) ab ⟨K,u,X,kr,(by decide :i7 (-1)),M1⟩ ?_
  rintro o _ bq br ad ae ⟨J,rfl,x,m,O,af⟩
  refine p9 (sr (mv u (fl a3j u a9g m0 x u (lv (q7 underlying24 u (s.mono m)) (lv (s7 u u) (nq (D4 ad u (fun ag y=>?_) (fun ag y=>?_))))))))
  ·refine j5 (qs (j7 (p9 ?_)))
   obtain⟨ah,ai,aj⟩:=ob y
   refine l6 (IV w K [] J [(1,V3 C f i),(2,pt q),(5,V6 o.1),(6,V6 o.2),(42,.bool ah)] [u9 q [V3 A a b,V3 B c d] 26]) ?_ ?_
   ·refine E1 mixed (by kernel_rfl) x (km u (kv (c9 a3j u) (kh (z6 a9g u m0 u) (km u ?_))))
    obtain⟨ak,al,am⟩:=ob ai
    refine ki underlying24 a3v (s.mono m) al fun an ao bs ap aq=>?_
    obtain⟨ar,au,aw,rfl,ax,bu⟩:=ap
    have ay:E9 _ an ao [V3 ar au aw,sv ak.To]:=aq
    refine kv (c9 a0l u) (kh (B6 T1 u (ay 0 _ u)) ?_)
    obtain⟨bv,az,aA⟩:=ob am
    refine kc c6w (fun _ _ aB R=>(b0R F) aB.enter0 (V.mono (m.trans R)) (ax.mono R) az) (km u (bt aA (fun l D=>?_) (fun l D=>?_)))
    ·refine kg l (i5 u) (kg l (s7 u u) (kg l (i5 u) (bt D (fun k G=>?_) (fun k G=>?_))))
     ·iterate 15 refine kn k ?_
      refine kg l (L8 u k u) (kv (o0 u l u) (B7 ?_))
      rintro bz ⟨aC,aD,aE⟩
      cases oi G
      exact qd ⟨aC,u,aD,aE⟩
     refine kg k (c9 a3j u) (kgh k (z6 a9g u m0 u) (kg k (i5 u) ?_))
     obtain⟨aF,aG,aH⟩:=ob G
     refine D2 (t:=L0) (wg u u k) u underlying24 a3v u u (s.mono m) aG fun aI aJ bA aK aL=>?_
     obtain⟨aM,aN,aO,rfl,aP,bB⟩:=aK
     have aQ:E9 _ aI aJ [V3 aM aN aO,sv aF.To]:=aL
     refine kg k (c9 a0l u) (kgh k (B6 T1 u (aQ 0 _ u)) (kg k (q7 underlying23 u aP) (kg k (c9 a3j u) (kgh k (z6 a9g u m0 u) (kg k (i5 u) ?_)))))
     obtain⟨aR,aS,aT⟩:=ob aH
     refine D2 (t:=L0) (wg u u k) u underlying24 a3v u u (s.mono m) aS fun aU aV bC aW aX=>?_
     obtain⟨aY,aZ,ba,rfl,bb,bD⟩:=aW
     have bc:E9 _ aU aV [V3 aY aZ ba,sv aR.To]:=aX
     refine kg k (c9 a0l u) (kgh k (B6 T1 u (bc 0 _ u)) (kg k (q7 underlying23 u bb) (kg k (F9 u u) (kg l (o4 u k u) (kv (o0 u l u) (B7 ?_))))))
     rintro bE ⟨bd,be,bf⟩
     cases oi aT
     exact qd ⟨bd,u,be,bf⟩
    refine kn l (kn l (kn l ?_))
    iterate 15 refine ku ?_
    refine kn l (kv (J6 u l u) (B7 ?_))
    rintro bF ⟨bg,bh,bi⟩
    cases oi D
    exact qd ⟨bg,u,bh,bi⟩
   rintro _ bG ⟨S,rfl,T,U⟩
   refine l4 (D4 aj u (fun bj H=>?_) (fun bj H=>?_))
   ·refine j3 (mv u (av u (nb (l4 (j3 (mv u (lv (y4 u u) (av u (i8 ?_)))))))))
    cases oi H
    exact qd ⟨_,u,S,u,T,(m.trans U),af,(s6 _)⟩
   refine j5 (x9 (l4 (j3 (mv u (lv (y4 u u) (av u (i8 ?_)))))))
   cases oi H
   exact qd ⟨_,u,S,u,T,(m.trans U),O,(s6 _)⟩
  refine w8 (g6 (g6 ?_))
  cases oi y
  cases ae _ u
  refine l5 ?_
  cases oi ac
  exact qd ⟨J,u,x.s,m,O⟩
 rintro _ bH ⟨bk,rfl,bl,bI,bm⟩
 refine qr (mv u (av u (nq (l3 ?_))))
 cases oi aa
 exact ey results146 ⟨bk,u,bl,bm⟩

theorem a9X {q0:y5}{r:y5}(hS:SH w K [] w K [])(G:i7 q0.Id)(H:b7 K5 K A a b q0.Fields)(I:b7 M5 K B c d q0.Nums)(hm:a2s F q0=some r):
  Calls prog 179 #[.agg #[V6 q0.Id,V3 A a b,V3 B c d]] w fun e w'=>∃a_2 n_3 c_4 a_6 n_7 c_8 K',e= .returned (.agg #[V6 r.Id,V3 a_2 n_3 c_4,V3 a_6 n_7 c_8])∧SH w K [] w' K' [tail (V3 a_2 n_3 c_4) 135 2,tail (V3 a_6 n_7 c_8) 202 2]∧i7 r.Id∧b7 K5 K' a_2 n_3 c_4 r.Fields∧b7 M5 K' a_6 n_7 c_8 r.Nums:=by
 rw [a2s] at hm
 refine ci func179 u ntmps179 (sr (bx u hS fun aC aX aE=>?_))
 have aF:SH _ _ _ _ _ [u9 aC [V6 q0.Id,V3 A a b,V3 B c d] 67]:=aE
 refine al F7 aF fun aG aY aH=>?_
 have aI:SH _ _ _ _ _ [u9 aG [V6 0,V3 none 0 0,V3 none 0 0] 67,_]:=aH
 refine ns ?_
 obtain⟨aZ,J,aJ⟩:=ob hm
 obtain⟨ba,O,R⟩:=ob aJ
 have v:=aI.drew
 refine j_0 (fun w'=>G8 K w'∧A9 aC [V6 q0.Id,V3 A a b,V3 B c d] w') 12 [] mixed ⟨v.hasK kr,v.hasObj m1⟩ (jv 0 u (c9 S6 u) (jh 1 u (fun _ h=>A8 E4 u u h.2) (jv 3 u (c9 a0R u) (jh 4 u (fun _ h=>A8 a6E u u h.2) (jv 7 u (c9 a1a u) (jh 8 u (fun _ h=>A8 a6Y u u h.2) (j2 2 6 u u ?_ ?_)))))))
 ·refine b0 K5 underlying64 S1 v fun bb bc bd f aD x=>(R7 ⟨x.hasK f,x.hasObj m2⟩ (j2 5 6 u u ?_ ?_))
  ·refine lp underlying64 S1 aD (H.mono f) J x fun S T U be bf m aK V=>(R7 ⟨V.hasK (f.trans m),V.hasObj m2⟩ (j1 6 u (b0 M5 underlying65 V4 V fun bg bh bi o aL W=>(R7 ⟨W.hasK ((f.trans m).trans o),W.hasObj m3⟩ (j1 9 u (lp underlying65 V4 aL (I.mono ((f.trans m).trans o)) O W fun X Y aa bj aM ab aN ac=>(R7 ⟨ac.hasK (((f.trans m).trans o).trans ab),ac.hasObj m3⟩ (jv 10 u (D3 (cs:=#[V6 q0.Id,V3 S T U,V3 X Y aa]) b5Z F7 u (by kernel_rfl)) (j1 11 u ?_)))))))))
   refine lw [V6 q0.Id,V3 S T U,V3 X Y aa] F7 ac.f2 fun bk y=>(R7 ⟨y.hasK (((f.trans m).trans o).trans ab),y.hasObj m3⟩ (jd (l4 (l3 ?_))))
   cases oi R
   exact ez results179 F7 y m0 ⟨S,T,U,X,Y,aa,aM,u,y.f1.f2.s,G,(aK.mono (o.trans ab)),aN⟩
  refine b0 M5 underlying65 V4 x fun bl bm bn i aO ad=>(R7 ⟨ad.hasK (f.trans i),ad.hasObj m3⟩ (j1 5 u (lp underlying64 S1 (aD.mono i) (H.mono (f.trans i)) J ad.f1 fun ae af ag bo bp q aP ah=>(R7 ⟨ah.hasK ((f.trans i).trans q),ah.hasObj m3⟩ (j1 9 u (lp underlying65 V4 (aO.mono q) (I.mono ((f.trans i).trans q)) O ah.f1 fun ai aj ak bq aQ am aR an=>(R7 ⟨an.hasK (((f.trans i).trans q).trans am),an.hasObj m3⟩ (jv 10 u (D3 (cs:=#[V6 q0.Id,V3 ae af ag,V3 ai aj ak]) b5Z F7 u (by kernel_rfl)) (j1 11 u ?_)))))))))
  refine lw [V6 q0.Id,V3 ae af ag,V3 ai aj ak] F7 an.f2 fun br C=>(R7 ⟨C.hasK (((f.trans i).trans q).trans am),C.hasObj m3⟩ (jd (l4 (l3 ?_))))
  cases oi R
  exact ez results179 F7 C m0 ⟨ae,af,ag,ai,aj,ak,aQ,u,C.f1.f2.s,G,(aP.mono am),aR⟩
 refine b0 M5 underlying65 V4 v fun bs bu bv k aS ao=>(R7 ⟨ao.hasK k,ao.hasObj m2⟩ (j1 2 u (b0 K5 underlying64 S1 ao fun bz bA bB l aT ap=>(R7 ⟨ap.hasK (k.trans l),ap.hasObj m3⟩ (j1 5 u (lp underlying64 S1 aT (H.mono (k.trans l)) J ap fun aq ar au bC bD s aU aw=>(R7 ⟨aw.hasK ((k.trans l).trans s),aw.hasObj m3⟩ (j1 9 u (lp underlying65 V4 (aS.mono (l.trans s)) (I.mono ((k.trans l).trans s)) O aw.f1 fun ax ay az bE aV aA aW aB=>?_)))))))))
 refine R7 ⟨aB.hasK (((k.trans l).trans s).trans aA),aB.hasObj m3⟩ (jv 10 u (D3 (cs:=#[V6 q0.Id,V3 aq ar au,V3 ax ay az]) b5Z F7 u (by kernel_rfl)) (j1 11 u (lw [V6 q0.Id,V3 aq ar au,V3 ax ay az] F7 aB.f2 fun bF D=>(R7 ⟨D.hasK (((k.trans l).trans s).trans aA),D.hasObj m3⟩ (jd (l4 (l3 ?_)))))))
 cases oi R
 exact ez results179 F7 D m0 ⟨aq,ar,au,ax,ay,az,aV,u,D.f1.f2.s,G,(aU.mono aA),aW⟩

theorem b2b {q0:z2}{r:u5×z2}(hS:SH w K Z w K [u9 g1 [V3 A a b,V6 q0.p_] 156])(aI:b7 tU8 K A a b q0.b_)(aJ:i7 q0.p_)(hm:a2a F q0=some r):
  Calls prog 163 #[.pointer (some ⟨g1,0,none⟩)] w fun e w'=>∃a_1 n_2 c_3 a_5 n_6 c_7 a_9 n_10 c_11 K',e= .returned (.agg #[V3 a_1 n_2 c_3,V3 a_5 n_6 c_7])∧SH w K Z w' K' [tail (V3 a_1 n_2 c_3) 9 1,tail (V3 a_5 n_6 c_7) 165 2,u9 g1 [V3 a_9 n_10 c_11,V6 r.2.p_] 156]∧b7 D8 K' a_1 n_2 c_3 r.1.Stops∧b7 L0 K' a_5 n_6 c_7 r.1.Syns∧b7 tU8 K' a_9 n_10 c_11 r.2.b_∧i7 r.2.p_:=by
 rw [a2a] at hm
 refine ci func163 rfl ntmps163 (sr (al E2 hS fun s w9 aK=>?_))
 have aL:SH _ _ _ _ _ [u9 s [V3 none 0 0,V3 none 0 0] 26,_]:=aK
 refine nr (lv (D3 (cs:=#[V3 none 0 0,V3 none 0 0]) c7w E2 rfl (by kernel_rfl)) (al E2 aL fun v bZ aM=>?_))
 have aN:SH _ _ _ _ _ [u9 v [V3 none 0 0,V3 none 0 0] 26,_,_]:=aM
 refine lw [V3 none 0 0,V3 none 0 0] E2 aN fun ca aO=>(P6 (mv rfl ?_))
 obtain⟨aP,aQ,aR⟩:=ob hm
 have ak:=aO.f2
 refine lk a2F (y8 F ak.e1 aI aJ (by decide :i7 3) aQ) ?_
 rintro cb cc ⟨aS,aT,aU,am,rfl,aV,cd,aW,aX⟩
 have an:=(ak.c1 aV).t3
 refine lv (F9 rfl rfl) (nq ?_)
 obtain⟨ao,aY,aZ⟩:=ob aR
 refine l6 (fun E' w'=>∃x y B i k l C,E'=[(0,pt g1),(2,pt s),(3,pt v)]∧SH w K Z w' C [u9 g1 [V3 aS aT aU,V6 aP.2.p_] 156,u9 s [V3 none 0 0,V3 none 0 0] 26,u9 v [V3 x y B,V3 i k l] 26,tail (V3 x y B) 9 1,tail (V3 i k l) 165 2]∧I9 am C∧b7 D8 C x y B ao.Stops∧b7 L0 C i k l ao.Syns) ?_ ?_
 ·refine D4 aY rfl (fun ba W=>?_) (fun ba W=>?_)
  ·refine j3 (lb D8 (sv [116,104,101]) [sv [116,104,101]] ([116,104,101]:q9) underlying23 H3 ⟨rfl,(by decide :([116,104,101]:q9).length≤maxLen)⟩ an fun X ce bb bc bd be=>(fa a3i rfl (ls [V3 X 1 1,V3 none 0 0] (V3 X 1 1) T1 be.f2 fun cf bf=>(i8 ?_))))
   cases oi W
   have bg:=bf.nil 165 2
   exact qd ⟨X,1,1,none,0,0,bb,rfl,bg.f2.f2.f4.f4,bc,bd,(b7.nil _ _)⟩
  refine j5 ?_
  cases oi W
  have bh:=an.nil 9 1
  have bi:=bh.nil 165 2
  exact qd ⟨none,0,0,none,0,0,am,rfl,bi.f1.f3.f4.f4,kr,(b7.nil _ _),(b7.nil _ _)⟩
 rintro _ cg ⟨x,y,B,i,k,l,C,rfl,ap,bj,bk,aq⟩
 refine qs (sr (mv rfl ?_))
 obtain⟨bl,bm,bn⟩:=ob aZ
 refine lk a2F (y8 F ap.e1 (aW.mono bj) aX (by decide :i7 4) bm) ?_
 rintro ch cj ⟨bo,bp,bq,ar,rfl,S,ck,br,bs⟩
 have au:=(ap.c1 S).t5
 refine lv (A6 rfl rfl) (nq ?_)
 obtain⟨aw,bu,bv⟩:=ob bn
 refine l6 (fun E' w'=>∃c d f m o q D,E'=[(0,pt g1),(2,pt s),(3,pt v)]∧SH w K Z w' D [u9 g1 [V3 bo bp bq,V6 bl.2.p_] 156,u9 s [V3 none 0 0,V3 none 0 0] 26,u9 v [V3 c d f,V3 m o q] 26,tail (V3 c d f) 9 1,tail (V3 m o q) 165 2]∧I9 ar D∧b7 D8 D c d f aw.Stops∧b7 L0 D m o q aw.Syns) ?_ ?_
 ·refine D4 bu rfl (fun bx Y=>?_) (fun bx Y=>?_)
  ·refine j3 (bw [[100,111,103],[116,104,101]] underlying23 H3 au fun aa cl bz ax bA bB=>(fa a3i rfl (ls [V3 aa 2 2,V3 i k l] (V3 aa 2 2) T1 bB.f3 fun cm bC=>(i8 ?_))))
   cases oi Y
   exact qd ⟨aa,2,2,i,k,l,bz,rfl,bC.f5.f2.f2.f4.f4.s,ax,bA,(aq.mono (S.le.trans ax))⟩
  refine j5 ?_
  cases oi Y
  exact qd ⟨x,y,B,i,k,l,ar,rfl,au,kr,(bk.mono S.le),(aq.mono S.le)⟩
 rintro _ cn ⟨c,d,f,m,o,q,D,rfl,ay,bD,ab,bE⟩
 refine qs (sr (mv rfl ?_))
 obtain⟨cp,bF,bG⟩:=ob bv
 refine lk a2F (y8 F ay.e1 (br.mono bD) bs (by decide :i7 4) bF) ?_
 rintro cq cr ⟨ac,ad,ae,bH,rfl,G,ct,af,ag⟩
 have T:=(ay.c1 G).t5
 refine nq (j7 (sr (lv (A6 rfl rfl) (av rfl (nq (D4 bG rfl (fun bI ah=>?_) (fun bI ah=>?_)))))))
 ·refine j3 (bw [[110,101,119],[121,111,114,107]] underlying23 H3 T fun U cu cv az bJ bK=>(lv (D3 (cs:=#[V3 U 2 2,sv [110,121]]) b9O a3v rfl (by kernel_rfl)) (lb L0 (.agg #[V3 U 2 2,sv [110,121]]) [V3 U 2 2,sv [110,121]] (V7.mk ([([110,101,119]:q9),([121,111,114,107]:q9)]:List q9) ([110,121]:q9)) underlying24 a3v ⟨U,2,2,rfl,bJ,(by decide :([110,121]:q9).length≤maxLen)⟩ bK fun H cw bL aA bM bN=>(fa a3j rfl (ls [V3 c d f,V3 H 1 1] (V3 H 1 1) a9g bN.f4 fun cx aB=>(nb (qr (lv (n8 (ds:=[V3 c d f,V3 H 1 1]) E2 rfl m0 aB rfl rfl) (lw [V3 c d f,V3 H 1 1] E2 aB.f4 fun cy aC=>?_)))))))))
  refine nq (l3 ?_)
  cases oi ah
  exact ez results163 E2 aC m0 ⟨c,d,f,H,1,1,ac,ad,ae,bL,rfl,aC.f4.f3.f5.s,(ab.mono ((G.le.trans az).trans aA)),bM,(af.mono (az.trans aA)),ag⟩
 refine sr (lv (A6 rfl rfl) (av rfl (nq (D4 ah rfl (fun bO ai=>?_) (fun bO ai=>?_)))))
 ·refine j3 (lb D8 (sv [98,105,103]) [sv [98,105,103]] ([98,105,103]:q9) underlying23 H3 ⟨rfl,(by decide :([98,105,103]:q9).length≤maxLen)⟩ T fun I cz cA aD bP bQ=>(lv (D3 (cs:=#[V3 I 1 1,sv [108,97,114,103]]) b9O a3v rfl (by kernel_rfl)) (bw [[98,105,103],[114,101,100],[102,111,120]] underlying23 H3 bQ fun J cB cC aj bR bS=>(lv (D3 (cs:=#[V3 J 3 3,sv [102,111,120]]) b9O a3v rfl (by kernel_rfl)) (bw [[110,101,119],[121,111,114,107]] underlying23 H3 bS fun O cD cE V bT bU=>(lv (D3 (cs:=#[V3 O 2 2,sv [110,121]]) b9O a3v rfl (by kernel_rfl)) ?_))))))
  refine H0 (t:=L0) (n:=3) (pv:=[(0,.agg #[V3 I 1 1,sv [108,97,114,103]]),(1,.agg #[V3 J 3 3,sv [102,111,120]]),(2,.agg #[V3 O 2 2,sv [110,121]])]) (cs:=[V3 I 1 1,sv [108,97,114,103],V3 J 3 3,sv [102,111,120],V3 O 2 2,sv [110,121]]) (xs:=[(V7.mk ([([98,105,103]:q9)]:List q9) ([108,97,114,103]:q9)),(V7.mk ([([98,105,103]:q9),([114,101,100]:q9),([102,111,120]:q9)]:List q9) ([102,111,120]:q9)),(V7.mk ([([110,101,119]:q9),([121,111,114,107]:q9)]:List q9) ([110,121]:q9))]) wn rfl underlying24 a3v rfl rfl rfl (by kernel_rfl) rfl rfl (E7 (u:=.agg #[V3 I 1 1,sv [108,97,114,103]]) (z:=(V7.mk ([([98,105,103]:q9)]:List q9) ([108,97,114,103]:q9))) ⟨I,1,1,rfl,(bP.mono (aj.trans V)),(by decide :([108,97,114,103]:q9).length≤maxLen)⟩ (E7 (u:=.agg #[V3 J 3 3,sv [102,111,120]]) (z:=(V7.mk ([([98,105,103]:q9),([114,101,100]:q9),([102,111,120]:q9)]:List q9) ([102,111,120]:q9))) ⟨J,3,3,rfl,(bR.mono V),(by decide :([102,111,120]:q9).length≤maxLen)⟩ (E7 (u:=.agg #[V3 O 2 2,sv [110,121]]) (z:=(V7.mk ([([110,101,119]:q9),([121,111,114,107]:q9)]:List q9) ([110,121]:q9))) ⟨O,2,2,rfl,bT,(by decide :([110,121]:q9).length≤maxLen)⟩ a0o))) bU ?_
  intro R cF bV aE bW bX
  refine fa a3j rfl (ls [V3 c d f,V3 R 3 3] (V3 R 3 3) a9g bX.f6 fun cG aF=>(nb (qr (lv (n8 (ds:=[V3 c d f,V3 R 3 3]) E2 rfl m0 aF rfl rfl) (lw [V3 c d f,V3 R 3 3] E2 aF.f6 fun cH aG=>(nq (l3 ?_)))))))
  cases oi ai
  exact ez results163 E2 aG m0 ⟨c,d,f,R,3,3,ac,ad,ae,bV,rfl,aG.f6.f3.f7.s,(b7.mono ((((G.le.trans aD).trans aj).trans V).trans aE) ab),bW,(b7.mono (((aD.trans aj).trans V).trans aE) af),ag⟩
 refine j5 (x9 (qr (lv (n8 (ds:=[V3 c d f,V3 m o q]) E2 rfl m2 T rfl rfl) (lw [V3 c d f,V3 m o q] E2 T.f1 fun cI aH=>(nq (l3 ?_))))))
 cases oi ai
 exact ez results163 E2 aH m0 ⟨c,d,f,m,o,q,ac,ad,ae,bH,rfl,aH.f1.f4.f4.s,(ab.mono G.le),(bE.mono G.le),af,ag⟩

theorem P9 {q0:z2}{q1:List q9}{r:q9×z2}(hS:SH w K Z w K [u9 g1 [V3 A a b,V6 q0.p_] 156])(l:b7 tU8 K A a b q0.b_)(m:i7 q0.p_)(f:b7 D8 K B c d q1)(hm:J2 F q0 q1=some r):
  Calls prog 71 #[.pointer (some ⟨g1,0,none⟩),V3 B c d] w fun e w'=>∃a_2 n_3 c_4 K',e= .returned (sv r.1)∧SH w K Z w' K' [u9 g1 [V3 a_2 n_3 c_4,V6 r.2.p_] 156]∧r.1.length≤maxLen∧b7 tU8 K' a_2 n_3 c_4 r.2.b_∧i7 r.2.p_:=by
 rw [J2] at hm
 refine ci func71 u ntmps71 (sr (lv (r_s u) (nr (mv u (mv u (mv u (lv (q7 underlying23 u f) ?_)))))))
 obtain⟨W,o,q⟩:=ob hm
 refine lk a2F (y8 F hS.e1 l m f.rn o) ?_
 rintro X Y ⟨s,x,y,C,rfl,i,aa,D,G⟩
 have k:=(hS.c1 i).t1
 obtain⟨H,I,J⟩:=ob q
 refine li underlying23 H3 (f.mono i.le) I fun O R ab S T=>?_
 obtain⟨rfl,U⟩:=S
 have V:E9 _ O R [sv H]:=T
 refine lv (y7 H3 u k (V 0 _ u)) (av u (nq (l3 ?_)))
 cases oi J
 exact ey results71 ⟨s,x,y,C,u,k,U,D,G⟩

theorem b3m {q0:z2}{r:q9×z2}(hS:SH w K Z w K [u9 g1 [V3 A a b,V6 q0.p_] 156])(d:b7 tU8 K A a b q0.b_)(f:i7 q0.p_)(hm:a2R F q0=some r):
  Calls prog 319 #[.pointer (some ⟨g1,0,none⟩)] w fun e w'=>∃a_2 n_3 c_4 K',e= .returned (sv r.1)∧SH w K Z w' K' [u9 g1 [V3 a_2 n_3 c_4,V6 r.2.p_] 156]∧r.1.length≤maxLen∧b7 tU8 K' a_2 n_3 c_4 r.2.b_∧i7 r.2.p_:=by
 rw [a2R] at hm
 refine ci func319 u ntmps319 (sr (lv (r_s u) (nr (mv u (bw [[99,97,116],[67,97,116,115],[100,111,103],[100,111,103,115],[114,117,110],[82,85,78,78,73,78,71],[116,104,101],[114,101,100],[98,105,103],[110,101,119,32,121,111,114,107],[78,101,119,32,32,89,111,114,107],[110,121],[102,111,120],[112,97,115,115,101,100],[120,49],[97,118,101,114,121,118,101,114,121,108,111,110,103,119,111,114,100]] underlying23 H3 hS fun I J O i k l=>?_)))))
 obtain⟨R,m,o⟩:=ob hm
 have c:=l.f1
 refine lk b6o (P9 F c.e1 (d.mono i) f k m) ?_
 rintro S T ⟨q,s,x,y,rfl,B,C,D,G⟩
 have H:=(c.c1 B).t2
 refine av u (nq (l3 ?_))
 cases oi o
 exact ey results319 ⟨q,s,x,y,u,H.s,C,D,G⟩

theorem a7h {q0:z2}{r:q9×z2}(hS:SH w K Z w K [u9 g1 [V3 A a b,V6 q0.p_] 156])(S:b7 tU8 K A a b q0.b_)(T:i7 q0.p_)(hm:T5 F q0=some r):
  Calls prog 284 #[.pointer (some ⟨g1,0,none⟩)] w fun e w'=>∃a_2 n_3 c_4 K',e= .returned (sv r.1)∧SH w K Z w' K' [u9 g1 [V3 a_2 n_3 c_4,V6 r.2.p_] 156]∧r.1.length≤maxLen∧b7 tU8 K' a_2 n_3 c_4 r.2.b_∧i7 r.2.p_:=by
 rw [T5] at hm
 refine ci func284 u ntmps284 (sr (lv (r_s u) (nr (lv (r_s u) (P6 (mv u ?_))))))
 obtain⟨r7,U,V⟩:=ob hm
 refine lk a2F (y8 F hS.e1 S T (by decide :i7 9) U) ?_
 rintro aO aP ⟨W,X,Y,x,rfl,aa,ab,ac,ad⟩
 have ae:=(hS.c1 aa).t1
 refine av u (nq ?_)
 obtain⟨d,af,ag⟩:=ob V
 refine l6 (fun E' w'=>∃k l m f,E'=[(0,pt g1),(3,sv d.1)]∧SH w K Z w' f [u9 g1 [V3 k l m,V6 d.2.p_] 156]∧I9 x f∧d.1.length≤maxLen∧b7 tU8 f k l m d.2.b_∧i7 d.2.p_) ?_ ?_
 ·refine j7 ?_
  obtain⟨aQ,ah,ai⟩:=ob af
  refine qw (fun (c:q9×Int×z2) E' w'=>∃o q s i,E'=[(0,pt g1),(3,sv c.1),(4,V6 c.2.1)]∧SH w K Z w' i [u9 g1 [V3 o q s,V6 c.2.2.p_] 156]∧I9 x i∧c.1.length≤maxLen∧i7 c.2.1∧b7 tU8 i o q s c.2.2.b_∧i7 c.2.2.p_) ah ⟨W,X,Y,x,u,ae,kr,(by decide :([]:q9).length≤maxLen),ab,ac,ad⟩ ?_
  rintro c _ aR aS aj ak ⟨o,q,s,i,rfl,y,C,al,aT,D,G⟩
  refine p9 (sr (mv u (lv (F9 u u) (nq (D4 aj u (fun am B=>?_) (fun am B=>?_))))))
  ·refine j5 (qs (j7 (j3 (mv u (mv u ?_)))))
   obtain⟨aU,an,ao⟩:=ob B
   refine lk c6K (b3m F y.e1 D G an) ?_
   rintro aV aW ⟨aX,aY,aZ,ba,rfl,H,bb,ap,aq⟩
   have ar:=(y.c1 H).t1
   obtain⟨bc,au,aw⟩:=ob ao
   refine lv (b2G u u au) (mv u (bw [[32],[32],[44,32],[45],[46,32]] underlying23 H3 ar fun bd be bf I ax ay=>?_))
   obtain⟨bg,az,aA⟩:=ob aw
   have J:=ay.f1
   refine lk b6o (P9 F J.e1 (ap.mono I) aq ax az) ?_
   rintro bh bi ⟨aB,aC,aD,aE,rfl,O,bj,aF,aG⟩
   have aH:=(J.c1 O).t2
   obtain⟨bk,R,aI⟩:=ob aA
   refine lv (b2G u u R) (av u (nb (l4 (j3 (mv u (lv (H2 u u) (av u (i8 ?_))))))))
   cases oi aI
   exact qd ⟨_,u,aB,aC,aD,aE,u,aH.s,(((C.trans H.le).trans I).trans O.le),(b5H R),(s6 _),aF,aG⟩
  refine w8 (g6 (g6 ?_))
  cases oi B
  cases ak _ u
  refine l5 ?_
  cases oi ai
  exact qd ⟨o,q,s,i,u,y,C,al,D,G⟩
 rintro _ bl ⟨k,l,m,f,rfl,aJ,bm,aK,aL,aM⟩
 refine qr (mv u (av u (nq (l3 ?_))))
 cases oi ag
 exact ey results284 ⟨k,l,m,f,u,aJ,aK,aL,aM⟩

theorem a4c {r:(List q9)}(hS:SH w K [] w K [])(hm:a0i F=some r):
  Calls prog 165 #[] w fun e w'=>∃a_1 n_2 c_3 K',e= .returned (V3 a_1 n_2 c_3)∧SH w K [] w' K' [tail (V3 a_1 n_2 c_3) 9 1]∧b7 D8 K' a_1 n_2 c_3 r:=by
 rw [a0i] at hm
 refine ci func165 u ntmps165 (sr (lv (r_n u) (nr (bw [[99,97,116],[99,97,116,115],[100,111,103],[100,111,103,115],[114,117,110],[114,117,110,110,105,110,103],[116,104,101],[114,101,100],[98,105,103],[110,101,119],[121,111,114,107],[110,121],[102,111,120]] underlying23 H3 hS fun a f b i c d=>(av u (nq (l3 ?_)))))))
 cases oi hm
 exact ey results165 ⟨a,13,13,b,u,d,c⟩

theorem b2e {q0:z2}{r:r5×z2}(hS:SH w K Z w K [u9 g1 [V3 A a b,V6 q0.p_] 156])(ar:b7 tU8 K A a b q0.b_)(au:i7 q0.p_)(hm:a2c F q0=some r):
  Calls prog 101 #[.pointer (some ⟨g1,0,none⟩)] w fun e w'=>∃a_3 n_4 c_5 a_9 n_10 c_11 a_13 n_14 c_15 K',e= .returned (.agg #[V6 r.1.Kind,sv r.1.Field,V3 a_3 n_4 c_5,V6 r.1.From,V6 r.1.To,V3 a_9 n_10 c_11])∧SH w K Z w' K' [tail (V3 a_3 n_4 c_5) 9 1,tail (V3 a_9 n_10 c_11) 33 6,u9 g1 [V3 a_13 n_14 c_15,V6 r.2.p_] 156]∧i7 r.1.Kind∧r.1.Field.length≤maxLen∧b7 D8 K' a_3 n_4 c_5 r.1.Words∧i7 r.1.From∧i7 r.1.To∧b7 F3 K' a_9 n_10 c_11 r.1.Kids∧b7 tU8 K' a_13 n_14 c_15 r.2.b_∧i7 r.2.p_:=by
 rw [a2c] at hm
 refine ci func101 rfl ntmps101 (sr (al C6 hS fun g7 w9 ax=>?_))
 have ay:SH _ _ _ _ _ [u9 g7 [V6 0,sv [],V3 none 0 0,V6 0,V6 0,V3 none 0 0] 33,_]:=ax
 refine nr (mv rfl (bw [[98,111,100,121],[98,111,100,121],[116,105,116,108,101]] underlying23 H3 ay fun dl dm dn az aA aB=>?_))
 obtain⟨d,aC,aD⟩:=ob hm
 have R:=aB.f2
 refine lk b6o (P9 F R.e1 (ar.mono az) au aA aC) ?_
 rintro dp dq ⟨dr,ds,dt,du,rfl,aE,o,aF,aG⟩
 have S:=(R.c1 aE).t3
 refine av rfl (P6 (mv rfl ?_))
 obtain⟨dv,aH,aI⟩:=ob aD
 refine lk a2F (y8 F S.e1 aF aG (by decide :i7 9) aH) ?_
 rintro dw dx ⟨aJ,aK,aL,aM,rfl,aN,dy,f,i⟩
 have c:=(S.c1 aN).t3
 refine nq (j7 (sr (lv (A6 rfl rfl) (av rfl (nq (D4 aI rfl (fun aO q=>?_) (fun aO q=>?_)))))))
 ·refine sr (lv (D3 (cs:=#[V6 1,sv [],V3 none 0 0,V6 0,V6 0,V3 none 0 0]) b3N C6 rfl (by kernel_rfl)) (ls [V6 1,sv [],V3 none 0 0,V6 0,V6 0,V3 none 0 0] (.agg #[V6 1,sv [],V3 none 0 0,V6 0,V6 0,V3 none 0 0]) C6 c.f2 fun dz T=>(nq (l3 (j6 (g8 ?_))))))
  cases oi q
  have aP:=T.nil 9 1
  have aQ:=aP.nil 33 6
  exact ez results101 C6 T m0 ⟨none,0,0,none,0,0,aJ,aK,aL,aM,rfl,aQ.f3.f1.f2.s,(by decide :i7 1),(by decide :([]:q9).length≤maxLen),(b7.nil _ _),M1,M1,(b7.nil _ _),f,i⟩
 refine sr (lv (A6 rfl rfl) (av rfl (nq (D4 q rfl (fun aR s=>?_) (fun aR s=>?_)))))
 ·refine sr (mv rfl (mv rfl ?_))
  obtain⟨dA,aS,aT⟩:=ob s
  refine lk c1y (a4c F c.enter0 aS) ?_
  rintro dB dC ⟨dD,dE,dF,dG,rfl,U,aU⟩
  have aV:=(c.c0 U).t4
  obtain⟨l,aW,aX⟩:=ob aT
  have V:=aV.f1
  refine lk b6o (P9 F V.e1 (f.mono U.le) i aU aW) ?_
  rintro dH dI ⟨dJ,dK,dL,dM,rfl,aY,aZ,ba,bb⟩
  have W:=(V.c1 aY).t4
  refine mv rfl ?_
  obtain⟨dN,bc,bd⟩:=ob aX
  refine lk c1y (a4c F W.enter0 bc) ?_
  rintro dO dP ⟨dQ,dR,dS,dT,rfl,X,be⟩
  have bf:=(W.c0 X).t5
  obtain⟨m,bg,bh⟩:=ob bd
  have Y:=bf.f1
  refine lk b6o (P9 F Y.e1 (ba.mono X.le) bb be bg) ?_
  rintro dU dV ⟨dW,dX,dY,dZ,rfl,bi,bj,bk,bl⟩
  have bm:=(Y.c1 bi).t5
  refine H0 (t:=D8) (n:=2) (pv:=[(0,sv l.1),(1,sv m.1)]) (cs:=[sv l.1,sv m.1]) (xs:=[l.1,m.1]) wn rfl underlying23 H3 rfl rfl rfl (by kernel_rfl) rfl rfl (E7 (u:=sv l.1) (z:=l.1) ⟨rfl,aZ⟩ (E7 (u:=sv m.1) (z:=m.1) ⟨rfl,bj⟩ a0o)) bm fun v ea eb bn bo bp=>(mv rfl ?_)
  obtain⟨aa,bq,br⟩:=ob bh
  have ab:=bp.f1
  refine lk a2F (y8 F ab.e1 (bk.mono bn) bl (by decide :i7 3) bq) ?_
  rintro ec ed ⟨bs,bu,bv,bx,rfl,ac,bz,bA,bB⟩
  have bC:=(ab.c1 ac).t6
  refine lv (D3 (cs:=#[V6 3,sv d.1,V3 v 2 2,V6 aa.1,V6 0,V3 none 0 0]) b3N C6 rfl (by kernel_rfl)) (lw [V6 3,sv d.1,V3 v 2 2,V6 aa.1,V6 0,V3 none 0 0] C6 bC.f5 fun ee ad=>(nq (l3 (j6 (g8 ?_)))))
  cases oi br
  have bD:=ad.nil 33 6
  exact ez results101 C6 ad m0 ⟨v,2,2,none,0,0,bs,bu,bv,bx,rfl,bD.f2.f1.f3.s,(by decide :i7 3),o,(bo.mono ac.le),bz,M1,(b7.nil _ _),bA,bB⟩
 refine sr (lv (A6 rfl rfl) (av rfl (nq (D4 s rfl (fun bE x=>?_) (fun bE x=>?_)))))
 ·refine sr (mv rfl (mv rfl (bw [[99,111,116],[100,117,103],[114,110],[102,111,103]] underlying23 H3 c fun ef eg eh bF bG bH=>?_)))
  obtain⟨y,bI,bJ⟩:=ob x
  have ae:=bH.f1
  refine lk b6o (P9 F ae.e1 (f.mono bF) i bG bI) ?_
  rintro ei ej ⟨ek,el,em,en,rfl,bK,bL,bM,bN⟩
  have bO:=(ae.c1 bK).t4
  refine lb D8 (sv y.1) [sv y.1] y.1 underlying23 H3 ⟨rfl,bL⟩ bO fun B eo ep bP bQ bR=>(mv rfl ?_)
  obtain⟨af,bS,bT⟩:=ob bJ
  have ag:=bR.f1
  refine lk a2F (y8 F ag.e1 (bM.mono bP) bN (by decide :i7 2) bS) ?_
  rintro eq es ⟨bU,bV,bW,bX,rfl,ah,et,bY,bZ⟩
  have ca:=(ag.c1 ah).t5
  refine lv (y4 rfl rfl) (lv (D3 (cs:=#[V6 4,sv d.1,V3 B 1 1,V6 (A1 ((1:Int)+af.1)),V6 0,V3 none 0 0]) b3N C6 rfl (by kernel_rfl)) (lw [V6 4,sv d.1,V3 B 1 1,V6 (A1 ((1:Int)+af.1)),V6 0,V3 none 0 0] C6 ca.f4 fun eu ai=>(nq (l3 (j6 (g8 ?_))))))
  cases oi bT
  have cb:=ai.nil 33 6
  exact ez results101 C6 ai m0 ⟨B,1,1,none,0,0,bU,bV,bW,bX,rfl,cb.f2.f1.f3.s,(by decide :i7 4),o,(bQ.mono ah.le),(s6 _),M1,(b7.nil _ _),bY,bZ⟩
 refine sr (lv (A6 rfl rfl) (av rfl (nq (D4 x rfl (fun cc C=>?_) (fun cc C=>?_)))))
 ·refine sr (mv rfl (mv rfl (bw [[99,42],[63,111,63],[42,110],[42]] underlying23 H3 c fun ev ew ex cd ce cf=>?_)))
  obtain⟨D,cg,ch⟩:=ob C
  have aj:=cf.f1
  refine lk b6o (P9 F aj.e1 (f.mono cd) i ce cg) ?_
  rintro eA eB ⟨cj,ck,cl,eC,rfl,cm,cn,cp,cq⟩
  have cr:=(aj.c1 cm).t4
  refine lb D8 (sv D.1) [sv D.1] D.1 underlying23 H3 ⟨rfl,cn⟩ cr fun G eD ct cu cv cw=>(lv (D3 (cs:=#[V6 5,sv d.1,V3 G 1 1,V6 0,V6 0,V3 none 0 0]) b3N C6 rfl (by kernel_rfl)) (lw [V6 5,sv d.1,V3 G 1 1,V6 0,V6 0,V3 none 0 0] C6 cw.f4 fun eE ak=>(nq (l3 (j6 (g8 ?_))))))
  cases oi ch
  have cx:=ak.nil 33 6
  exact ez results101 C6 ak m0 ⟨G,1,1,none,0,0,cj,ck,cl,ct,rfl,cx.f3.f1.f3.s,(by decide :i7 5),o,cv,M1,M1,(b7.nil _ _),(cp.mono cu),cq⟩
 refine sr (lv (A6 rfl rfl) (av rfl (nq (D4 C rfl (fun cy H=>?_) (fun cy H=>?_)))))
 ·refine sr (mv rfl ?_)
  obtain⟨k,cz,cA⟩:=ob H
  refine lk a2F (y8 F c.e1 f i (by decide :i7 4) cz) ?_
  rintro eF eG ⟨eH,eI,eJ,eK,rfl,cB,cC,cD,cE⟩
  have am:=(c.c1 cB).t3
  refine av rfl (nr (mv rfl (mv rfl (mv rfl ?_))))
  obtain⟨I,cF,cG⟩:=ob cA
  refine lk a2F (y8 F am.e1 cD cE (by decide :i7 3) cF) ?_
  rintro eL eM ⟨cH,cI,cJ,cK,rfl,cL,eN,cM,cN⟩
  have cO:=(am.c1 cL).t3
  refine lv (y4 rfl rfl) (lv (D3 (cs:=#[V6 6,sv [114,97,116,101],V3 none 0 0,V6 k.1,V6 (A1 (k.1+I.1)),V3 none 0 0]) b3N C6 rfl (by kernel_rfl)) (ls [V6 6,sv [114,97,116,101],V3 none 0 0,V6 k.1,V6 (A1 (k.1+I.1)),V3 none 0 0] (.agg #[V6 6,sv [114,97,116,101],V3 none 0 0,V6 k.1,V6 (A1 (k.1+I.1)),V3 none 0 0]) C6 cO.f2 fun eO an=>(nq (l3 (j6 (g8 ?_))))))
  cases oi cG
  have cP:=an.nil 9 1
  have cQ:=cP.nil 33 6
  exact ez results101 C6 an m0 ⟨none,0,0,none,0,0,cH,cI,cJ,cK,rfl,cQ.f3.f1.f2.s,(by decide :i7 6),(by decide :([114,97,116,101]:q9).length≤maxLen),(b7.nil _ _),cC,(s6 _),(b7.nil _ _),cM,cN⟩
 refine j5 (x9 (qr (mv rfl (mv rfl ?_))))
 obtain⟨eP,cR,cS⟩:=ob H
 refine lk c1y (a4c F c.enter0 cR) ?_
 rintro eQ eR ⟨eS,eT,eU,eV,rfl,ao,cT⟩
 have cU:=(c.c0 ao).t4
 obtain⟨J,cV,cW⟩:=ob cS
 have ap:=cU.f1
 refine lk b6o (P9 F ap.e1 (f.mono ao.le) i cT cV) ?_
 rintro eW eX ⟨cX,cY,cZ,eY,rfl,da,db,dc,dd⟩
 have de:=(ap.c1 da).t4
 refine lb D8 (sv J.1) [sv J.1] J.1 underlying23 H3 ⟨rfl,db⟩ de fun O eZ df dg dh di=>(lv (D3 (cs:=#[V6 2,sv d.1,V3 O 1 1,V6 0,V6 0,V3 none 0 0]) b3N C6 rfl (by kernel_rfl)) (lw [V6 2,sv d.1,V3 O 1 1,V6 0,V6 0,V3 none 0 0] C6 di.f4 fun fb aq=>(nq (l3 ?_))))
 cases oi cW
 have dj:=aq.nil 33 6
 exact ez results101 C6 aq m0 ⟨O,1,1,none,0,0,cX,cY,cZ,df,rfl,dj.f3.f1.f3.s,(by decide :i7 2),o,dh,M1,M1,(b7.nil _ _),(dc.mono dg),dd⟩

theorem a2A (F:Nat): ∀{w:World} {K:F0} {g1:Nat} {l:Option Addr} {m o:Nat} {q0:z2} {q1:Int} {r:r5×z2} (hS:SH w K (List.flatMap E5.gs [u9 g1 [V3 l m o,V6 q0.p_] 156]) w K [u9 g1 [V3 l m o,V6 q0.p_] 156]) (bd:b7 tU8 K l m o q0.b_) (be:i7 q0.p_) (cF:i7 q1) (hm:E3 F q0 q1=some r),
  Calls prog 42 #[.pointer (some ⟨g1,0,none⟩),V6 q1] w fun e w'=>∃a_3 n_4 c_5 a_9 n_10 c_11 a_13 n_14 c_15 K',e= .returned (.agg #[V6 r.1.Kind,sv r.1.Field,V3 a_3 n_4 c_5,V6 r.1.From,V6 r.1.To,V3 a_9 n_10 c_11])∧SH w K (List.flatMap E5.gs [u9 g1 [V3 l m o,V6 q0.p_] 156]) w' K' [tail (V3 a_3 n_4 c_5) 9 1,tail (V3 a_9 n_10 c_11) 33 6,u9 g1 [V3 a_13 n_14 c_15,V6 r.2.p_] 156]∧i7 r.1.Kind∧r.1.Field.length≤maxLen∧b7 D8 K' a_3 n_4 c_5 r.1.Words∧i7 r.1.From∧i7 r.1.To∧b7 F3 K' a_9 n_10 c_11 r.1.Kids∧b7 tU8 K' a_13 n_14 c_15 r.2.b_∧i7 r.2.p_:=by
 induction F with
 | zero=>intros;rename_i hm;rw [E3] at hm;cases hm
 | succ F ih=>
  intro w K g1 l m o q0 q1 r hS bd be cF hm
  rw [E3] at hm
  refine ci func42 rfl ntmps42 (sr (al C6 hS fun q w9 cG=>?_))
  have bT:SH _ _ _ _ _ [u9 q [V6 0,sv [],V3 none 0 0,V6 0,V6 0,V3 none 0 0] 33,_]:=cG
  refine ns (p9 ?_)
  obtain⟨ak,cH,cI⟩:=ob hm
  refine l6 (fun E' w'=>∃bf bg bh am,E'=[(0,pt g1),(1,V6 q1),(4,pt q),(13,.bool ak.1)]∧SH w K (List.flatMap E5.gs [u9 g1 [V3 l m o,V6 q0.p_] 156]) w' am [u9 g1 [V3 bf bg bh,V6 ak.2.p_] 156,u9 q [V6 0,sv [],V3 none 0 0,V6 0,V6 0,V3 none 0 0] 33]∧I9 K am∧b7 tU8 am bf bg bh ak.2.b_∧i7 ak.2.p_) ?_ ?_
  ·refine j3 (mv rfl (lv (W5 rfl rfl) (mv rfl (bt cH (fun s bi=>?_) (fun s bi=>?_)))))
   ·refine lu s (lu s (lu s (lv (L8 rfl s rfl) (i8 ?_))))
    cases oi bi
    exact qd ⟨l,m,o,K,rfl,bT.f1,kr,bd,be⟩
   refine lg s (i5 rfl) ?_
   obtain⟨gr,cJ,cK⟩:=ob bi
   have bU:=bT.f1
   refine A0 (wg rfl rfl s) rfl (z7 (vs:=[pt g1,V6 3]) a2F rfl) (y8 F bU.e1 bd be (by decide :i7 3) cJ) ?_
   rintro gv gw ⟨cL,cM,cN,cO,rfl,bV,gx,cP,cQ⟩
   refine⟨_,rfl,?_⟩
   have cR:=(bU.c1 bV).t2
   refine lg s (A6 rfl rfl) (lv (o4 rfl s rfl) (i8 ?_))
   cases oi cK
   exact qd ⟨cL,cM,cN,cO,rfl,cR,bV.le,cP,cQ⟩
  rintro _ gy ⟨bf,bg,bh,am,rfl,an,gz,bW,bX⟩
  refine l4 (D4 cI rfl (fun cS bj=>?_) (fun cS bj=>?_))
  ·refine sr (mv rfl ?_)
   obtain⟨ao,cT,cU⟩:=ob bj
   refine lk c5G (b2e F an.e1 bW bX cT) ?_
   rintro gA gB ⟨bY,bZ,ca,cb,cc,cd,cV,cW,cX,cY,rfl,cZ,da,db,dc,dd,de,df,dg,dh⟩
   have di:=(an.c1 cZ).t4
   refine lw [V6 ao.1.Kind,sv ao.1.Field,V3 bY bZ ca,V6 ao.1.From,V6 ao.1.To,V3 cb cc cd] C6 di.f3 fun gC ce=>(nq (rr ?_))
   cases oi cU
   exact ez results42 C6 ce m0 ⟨bY,bZ,ca,cb,cc,cd,cV,cW,cX,cY,rfl,ce.s,da,db,dc,dd,de,df,dg,dh⟩
  refine j5 (qs (sr (mv rfl ?_)))
  obtain⟨dj,dk,dl⟩:=ob bj
  refine lk a2F (y8 F an.e1 bW bX (by decide :i7 6) dk) ?_
  rintro gD gE ⟨cf,cg,ch,ap,rfl,dm,gF,aq,ar⟩
  have V:=(an.c1 dm).t2
  refine nq ?_
  obtain⟨dn,dp,W⟩:=ob dl
  refine l6 (fun E' w'=>∃b bk bl bm ad ae af ag ah ai X,dn= .inl b∧E'=[(0,pt g1),(1,V6 q1),(4,pt q)]∧SH w K (List.flatMap E5.gs [u9 g1 [V3 l m o,V6 q0.p_] 156]) w' X [u9 g1 [V3 bk bl bm,V6 b.1.p_] 156,u9 q [V6 b.2.Kind,sv b.2.Field,V3 ad ae af,V6 b.2.From,V6 b.2.To,V3 ag ah ai] 33]∧I9 ap X∧b7 tU8 X bk bl bm b.1.b_∧i7 b.1.p_∧i7 b.2.Kind∧b.2.Field.length≤maxLen∧b7 D8 X ad ae af b.2.Words∧i7 b.2.From∧i7 b.2.To∧b7 F3 X ag ah ai b.2.Kids) ?_ ?_
  ·refine j7 (sr (lv (A6 rfl rfl) (av rfl (nq (D4 dp rfl (fun dq bn=>?_) (fun dq bn=>?_))))))
   ·refine sr (mv rfl (mv rfl (lv (H2 rfl rfl) ?_)))
    obtain⟨d,dr,dt⟩:=ob bn
    refine lk b32 (ih V.e1 aq ar (s6 _) dr) ?_
    rintro gG gH ⟨au,aw,ax,ay,az,aA,gI,gJ,gK,gL,rfl,du,dv,dw,dx,dy,dz,dA,dB,dC⟩
    have dD:=(V.c1 du).t4
    refine mv rfl (mv rfl (lv (H2 rfl rfl) ?_))
    obtain⟨f,dE,dF⟩:=ob dt
    have cj:=dD.f2
    refine lk b32 (ih cj.e1 dB dC (s6 _) dE) ?_
    rintro gM gN ⟨aB,aC,aD,aE,aF,aG,dG,dH,dI,gO,rfl,bo,dJ,dK,dL,dM,dN,dO,dP,dQ⟩
    have dR:=(cj.c1 bo).t6
    refine H0 (t:=F3) (n:=2) (pv:=[(0,.agg #[V6 d.1.Kind,sv d.1.Field,V3 au aw ax,V6 d.1.From,V6 d.1.To,V3 ay az aA]),(1,.agg #[V6 f.1.Kind,sv f.1.Field,V3 aB aC aD,V6 f.1.From,V6 f.1.To,V3 aE aF aG])]) (cs:=[V6 d.1.Kind,sv d.1.Field,V3 au aw ax,V6 d.1.From,V6 d.1.To,V3 ay az aA,V6 f.1.Kind,sv f.1.Field,V3 aB aC aD,V6 f.1.From,V6 f.1.To,V3 aE aF aG]) (xs:=[d.1,f.1]) wn rfl underlying31 C6 rfl rfl rfl (by kernel_rfl) rfl rfl (E7 (u:=.agg #[V6 d.1.Kind,sv d.1.Field,V3 au aw ax,V6 d.1.From,V6 d.1.To,V3 ay az aA]) (z:=d.1) (Z1 ⟨au,aw,ax,ay,az,aA,rfl,dv,dw,(dx.mono bo.le),dy,dz,(dA.mono bo.le)⟩) (E7 (u:=.agg #[V6 f.1.Kind,sv f.1.Field,V3 aB aC aD,V6 f.1.From,V6 f.1.To,V3 aE aF aG]) (z:=f.1) (Z1 ⟨aB,aC,aD,aE,aF,aG,rfl,dJ,dK,dL,dM,dN,dO⟩) a0o)) dR fun aH gP dS dT dU dV=>?_
    refine lv (D3 (cs:=#[V6 9,sv [],V3 none 0 0,V6 0,V6 0,V3 aH 2 2]) b3N C6 rfl (by kernel_rfl)) (ls [V6 9,sv [],V3 none 0 0,V6 0,V6 0,V3 aH 2 2] (.agg #[V6 9,sv [],V3 none 0 0,V6 0,V6 0,V3 aH 2 2]) C6 dV.f6 fun gQ ck=>(nq (l3 (j6 (g8 ?_)))))
    cases oi dF
    refine g8 ?_
    cases oi W
    have dW:=ck.nil 9 1
    exact ez results42 C6 ck m0 ⟨none,0,0,aH,2,2,dG,dH,dI,dS,rfl,dW.s,(by decide :i7 9),(by decide :([]:q9).length≤maxLen),(b7.nil _ _),M1,M1,dU,(dP.mono dT),dQ⟩
   refine sr (lv (A6 rfl rfl) (av rfl (nq (D4 bn rfl (fun dX bp=>?_) (fun dX bp=>?_)))))
   ·refine sr (mv rfl ?_)
    obtain⟨bq,dY,dZ⟩:=ob bp
    refine lk a2F (y8 F V.e1 aq ar (by decide :i7 4) dY) ?_
    rintro gR gS ⟨gT,gU,gV,gW,rfl,ea,gX,eb,ec⟩
    have cl:=(V.c1 ea).t2
    refine lv (y4 rfl rfl) (mv rfl (mv rfl (lv (H2 rfl rfl) ?_)))
    obtain⟨x,ed,ee⟩:=ob dZ
    refine lk b32 (ih cl.e1 eb ec (s6 _) ed) ?_
    rintro gY gZ ⟨br,bs,bu,bv,bx,bz,ef,eg,eh,hb,rfl,ei,ej,ek,el,em,en,eo,ep,eq⟩
    have es:=(cl.c1 ei).t4
    refine lb F3 (.agg #[V6 x.1.Kind,sv x.1.Field,V3 br bs bu,V6 x.1.From,V6 x.1.To,V3 bv bx bz]) [V6 x.1.Kind,sv x.1.Field,V3 br bs bu,V6 x.1.From,V6 x.1.To,V3 bv bx bz] x.1 underlying31 C6 (Z1 ⟨br,bs,bu,bv,bx,bz,rfl,ej,ek,el,em,en,eo⟩) es fun aI hc et eu ev ew=>(lv (D3 (cs:=#[V6 10,sv [],V3 none 0 0,V6 (A1 ((2:Int)+bq.1)),V6 0,V3 aI 1 1]) b3N C6 rfl (by kernel_rfl)) (ls [V6 10,sv [],V3 none 0 0,V6 (A1 ((2:Int)+bq.1)),V6 0,V3 aI 1 1] (.agg #[V6 10,sv [],V3 none 0 0,V6 (A1 ((2:Int)+bq.1)),V6 0,V3 aI 1 1]) C6 ew.f4 fun hd cm=>(nq (l3 (j6 (g8 ?_))))))
    cases oi ee
    refine g8 ?_
    cases oi W
    have ex:=cm.nil 9 1
    exact ez results42 C6 cm m0 ⟨none,0,0,aI,1,1,ef,eg,eh,et,rfl,ex.s,(by decide :i7 10),(by decide :([]:q9).length≤maxLen),(b7.nil _ _),(s6 _),M1,ev,(ep.mono eu),eq⟩
   refine p9 (sr (lv (A6 rfl rfl) (av rfl (nq ?_))))
   obtain⟨eA,eB,eC⟩:=ob bp
   refine l6 (IV w K (List.flatMap E5.gs [u9 g1 [V3 l m o,V6 q0.p_] 156]) ap [(0,pt g1),(1,V6 q1),(4,pt q),(41,.bool eA)] [u9 g1 [V3 cf cg ch,V6 dj.2.p_] 156,u9 q [V6 0,sv [],V3 none 0 0,V6 0,V6 0,V3 none 0 0] 33]) ?_ ?_
   ·refine D4 eB rfl (fun eD bA=>?_) (fun eD bA=>?_)
    ·refine j5 ?_
     cases oi bA
     exact qd ⟨ap,rfl,V,kr⟩
    refine j3 (lv (A6 rfl rfl) (av rfl (i8 ?_)))
    cases oi bA
    exact qd ⟨ap,rfl,V,kr⟩
   rintro _ he ⟨eE,rfl,bB,bC⟩
   refine l4 (D4 eC rfl (fun eF bD=>?_) (fun eF bD=>?_))
   ·refine sr (mv rfl (mv rfl (lv (H2 rfl rfl) ?_)))
    obtain⟨i,eG,eH⟩:=ob bD
    refine lk b32 (ih bB.e1 (aq.mono bC) ar (s6 _) eG) ?_
    rintro hf hg ⟨aJ,aK,aL,aM,aN,aO,hh,hi,hj,hk,rfl,eI,eJ,eK,eL,eM,eN,eO,eP,eQ⟩
    have eR:=(bB.c1 eI).t4
    refine mv rfl (mv rfl (lv (H2 rfl rfl) ?_))
    obtain⟨k,eS,eT⟩:=ob eH
    have cn:=eR.f2
    refine lk b32 (ih cn.e1 eP eQ (s6 _) eS) ?_
    rintro hn ho ⟨aP,aQ,aR,aS,aT,aU,eU,eV,eW,hp,rfl,bE,eX,eY,eZ,fb,fc,fd,fe,fg⟩
    have fh:=(cn.c1 bE).t6
    refine H0 (t:=F3) (n:=2) (pv:=[(0,.agg #[V6 i.1.Kind,sv i.1.Field,V3 aJ aK aL,V6 i.1.From,V6 i.1.To,V3 aM aN aO]),(1,.agg #[V6 k.1.Kind,sv k.1.Field,V3 aP aQ aR,V6 k.1.From,V6 k.1.To,V3 aS aT aU])]) (cs:=[V6 i.1.Kind,sv i.1.Field,V3 aJ aK aL,V6 i.1.From,V6 i.1.To,V3 aM aN aO,V6 k.1.Kind,sv k.1.Field,V3 aP aQ aR,V6 k.1.From,V6 k.1.To,V3 aS aT aU]) (xs:=[i.1,k.1]) wn rfl underlying31 C6 rfl rfl rfl (by kernel_rfl) rfl rfl (E7 (u:=.agg #[V6 i.1.Kind,sv i.1.Field,V3 aJ aK aL,V6 i.1.From,V6 i.1.To,V3 aM aN aO]) (z:=i.1) (Z1 ⟨aJ,aK,aL,aM,aN,aO,rfl,eJ,eK,(eL.mono bE.le),eM,eN,(eO.mono bE.le)⟩) (E7 (u:=.agg #[V6 k.1.Kind,sv k.1.Field,V3 aP aQ aR,V6 k.1.From,V6 k.1.To,V3 aS aT aU]) (z:=k.1) (Z1 ⟨aP,aQ,aR,aS,aT,aU,rfl,eX,eY,eZ,fb,fc,fd⟩) a0o)) fh fun aV hq fi fj fk fm=>?_
    refine lv (D3 (cs:=#[V6 7,sv [],V3 none 0 0,V6 0,V6 0,V3 aV 2 2]) b3N C6 rfl (by kernel_rfl)) (ls [V6 7,sv [],V3 none 0 0,V6 0,V6 0,V3 aV 2 2] (.agg #[V6 7,sv [],V3 none 0 0,V6 0,V6 0,V3 aV 2 2]) C6 fm.f6 fun hr cp=>(nq (l3 (j6 (g8 ?_)))))
    cases oi eT
    refine g8 ?_
    cases oi W
    have fn:=cp.nil 9 1
    exact ez results42 C6 cp m0 ⟨none,0,0,aV,2,2,eU,eV,eW,fi,rfl,fn.s,(by decide :i7 7),(by decide :([]:q9).length≤maxLen),(b7.nil _ _),M1,M1,fk,(fe.mono fj),fg⟩
   refine j5 (x9 ?_)
   cases oi bD
   exact qd ⟨_,cf,cg,ch,none,0,0,none,0,0,eE,rfl,rfl,bB,bC,(aq.mono bC),ar,M1,(by decide :([]:q9).length≤maxLen),(b7.nil _ _),M1,M1,(b7.nil _ _)⟩
  rintro _ ht ⟨b,bk,bl,bm,ad,ae,af,ag,ah,ai,X,rfl,rfl,fo,hu,fp,fq,hv,hw,hx,hy,hz,hA⟩
  have W:=F6 W
  refine qr (lv (D3 (cs:=#[V6 8,sv [],V3 none 0 0,V6 0,V6 0,V3 none 0 0]) b3N C6 rfl (by kernel_rfl)) (al C6 fo fun Y hB fr=>?_))
  have fs:SH _ _ _ _ _ [u9 Y [V6 0,sv [],V3 none 0 0,V6 0,V6 0,V3 none 0 0] 33,_,_]:=fr
  refine ls [V6 8,sv [],V3 none 0 0,V6 0,V6 0,V3 none 0 0] (.agg #[V6 8,sv [],V3 none 0 0,V6 0,V6 0,V3 none 0 0]) C6 fs fun hC ft=>(P6 (mv rfl ?_))
  obtain⟨hD,fu,fv⟩:=ob W
  have cq:=ft.f1
  refine lk a2F (y8 F cq.e1 fp fq (by decide :i7 2) fu) ?_
  rintro hE hF ⟨fw,fx,fy,bF,rfl,fz,hG,fA,fB⟩
  have fC:=(cq.c1 fz).t3
  refine lv (y4 rfl rfl) (av rfl (nq ?_))
  obtain⟨c,fD,fE⟩:=ob fv
  refine l6 (fun E' w'=>∃aW aX aY H I J O R S T,E'=[(0,pt g1),(4,pt q),(5,pt Y)]∧SH w K (List.flatMap E5.gs [u9 g1 [V3 l m o,V6 q0.p_] 156]) w' T [u9 g1 [V3 aW aX aY,V6 c.1.p_] 156,u9 q [V6 b.2.Kind,sv b.2.Field,V3 ad ae af,V6 b.2.From,V6 b.2.To,V3 ag ah ai] 33,u9 Y [V6 c.2.Kind,sv c.2.Field,V3 H I J,V6 c.2.From,V6 c.2.To,V3 O R S] 33,tail (V3 H I J) 9 1,tail (V3 O R S) 33 6]∧I9 bF T∧b7 tU8 T aW aX aY c.1.b_∧i7 c.1.p_∧i7 c.2.Kind∧c.2.Field.length≤maxLen∧b7 D8 T H I J c.2.Words∧i7 c.2.From∧i7 c.2.To∧b7 F3 T O R S c.2.Kids) ?_ ?_
  ·refine j7 ?_
   obtain⟨hH,fF,fG⟩:=ob fD
   have fH:=fC.nil 9 1
   have fI:=fH.nil 33 6
   refine qw (fun (a:Int×z2×r5) E' w'=>∃aZ ba bb A B C aa ab ac D,E'=[(0,pt g1),(1,V6 q1),(4,pt q),(5,pt Y),(6,V6 a.1)]∧SH w K (List.flatMap E5.gs [u9 g1 [V3 l m o,V6 q0.p_] 156]) w' D [u9 g1 [V3 aZ ba bb,V6 a.2.1.p_] 156,u9 q [V6 b.2.Kind,sv b.2.Field,V3 ad ae af,V6 b.2.From,V6 b.2.To,V3 ag ah ai] 33,u9 Y [V6 a.2.2.Kind,sv a.2.2.Field,V3 A B C,V6 a.2.2.From,V6 a.2.2.To,V3 aa ab ac] 33,tail (V3 A B C) 9 1,tail (V3 aa ab ac) 33 6]∧I9 bF D∧i7 a.1∧b7 tU8 D aZ ba bb a.2.1.b_∧i7 a.2.1.p_∧i7 a.2.2.Kind∧a.2.2.Field.length≤maxLen∧b7 D8 D A B C a.2.2.Words∧i7 a.2.2.From∧i7 a.2.2.To∧b7 F3 D aa ab ac a.2.2.Kids) fF ⟨fw,fx,fy,none,0,0,none,0,0,bF,rfl,fI.f1.f3.f4.f4,kr,(s6 _),fA,fB,(by decide :i7 8),(by decide :([]:q9).length≤maxLen),(b7.nil _ _),M1,M1,(b7.nil _ _)⟩ ?_
   rintro a _ hI hJ fJ fK ⟨aZ,ba,bb,A,B,C,aa,ab,ac,D,rfl,cr,ct,hK,cu,cv,cw,cx,cy,cz,cA,cB⟩
   refine p9 (sr (mv rfl (lv (F9 rfl rfl) (nq (D4 fJ rfl (fun fL bG=>?_) (fun fL bG=>?_))))))
   ·refine j5 (qs (j7 ?_))
    have bc:=cr.drew
    refine wh1 (fun w'=>G8 D w') (fun w'=>A9 Y [V6 a.2.2.Kind,sv a.2.2.Field,V3 A B C,V6 a.2.2.From,V6 a.2.2.To,V3 aa ab ac] w') 9 [(1,7),(1,8),(1,9),(7,8),(7,9),(8,9)] mixed (bc.hasK kr) (fun _=>bc.hasObj (.tail _ (.tail _ (.head _)))) (gt (c9 T6 rfl) (gf (fun _ h=>A8 a4H rfl rfl h) (gt (i5 rfl) (gt (i5 rfl) (gt (H2 rfl rfl) (gn ?_))))))
    obtain⟨y,fM,fN⟩:=ob bG
    refine lk b32 (ih bc.e1 cu cv (s6 _) fM) ?_
    rintro hL hM ⟨bH,bI,bJ,bK,bL,bM,fO,fP,fQ,hN,rfl,G,fR,fS,fT,fU,fV,fW,fX,fY⟩
    have bN:=(bc.c1 G).t7
    refine i8 (qh (bN.hasK G.le) (fun _=>bN.hasObj (.tail _ (.tail _ (.tail _ (.tail _ (.head _)))))) (gn (lb F3 (.agg #[V6 y.1.Kind,sv y.1.Field,V3 bH bI bJ,V6 y.1.From,V6 y.1.To,V3 bK bL bM]) [V6 y.1.Kind,sv y.1.Field,V3 bH bI bJ,V6 y.1.From,V6 y.1.To,V3 bK bL bM] y.1 underlying31 C6 (Z1 ⟨bH,bI,bJ,bK,bL,bM,rfl,fR,fS,fT,fU,fV,fW⟩) bN fun hO hP hQ U fZ bO=>(i8 (qh (bO.hasK (G.le.trans U)) (fun _=>bO.hasObj (.tail _ (.tail _ (.tail _ (.tail _ (.tail _ (.head _))))))) (gn ?_))))))
    obtain⟨hR,ga,gb⟩:=ob fN
    refine lp underlying31 C6 (cB.mono (G.le.trans U)) fZ ga bO.f7 fun bP bQ bR hT gc aj gd bS=>(i8 (qh (bS.hasK ((G.le.trans U).trans aj)) (fun _=>bS.hasObj (.tail _ (.tail _ (.tail _ (.tail _ (.tail _ (.tail _ (.head _)))))))) (gt (c9 T6 rfl) (gn (ls [V6 a.2.2.Kind,sv a.2.2.Field,V3 A B C,V6 a.2.2.From,V6 a.2.2.To,V3 bP bQ bR] (V3 bP bQ bR) a4H bS.f6 fun hU cC=>(i8 (qh (cC.hasK ((G.le.trans U).trans aj)) (fun h=>nomatch h) (gd' (x9 (l4 (j3 ?_)))))))))))
    refine mv rfl (lv (H2 rfl rfl) (av rfl (i8 ?_)))
    cases oi gb
    exact qd ⟨_,rfl,fO,fP,fQ,A,B,C,bP,bQ,bR,gc,rfl,cC.f1.f7.f2.f7.f7.s,(((ct.trans G.le).trans U).trans aj),(s6 _),(fX.mono (U.trans aj)),fY,cw,cx,(cy.mono ((G.le.trans U).trans aj)),cz,cA,gd⟩
   refine w8 (g6 (g6 ?_))
   cases oi bG
   cases fK _ rfl
   refine l5 ?_
   cases oi fG
   exact qd ⟨aZ,ba,bb,A,B,C,aa,ab,ac,D,rfl,cr,ct,cu,cv,cw,cx,cy,cz,cA,cB⟩
  rintro _ hV ⟨aW,aX,aY,H,I,J,O,R,S,T,rfl,cD,hW,ge,gg,gj,gk,gl,gm,go,gp⟩
  refine qr (lv (n8 (ds:=[V6 c.2.Kind,sv c.2.Field,V3 H I J,V6 c.2.From,V6 c.2.To,V3 O R S]) C6 rfl m2 cD rfl rfl) (lw [V6 c.2.Kind,sv c.2.Field,V3 H I J,V6 c.2.From,V6 c.2.To,V3 O R S] C6 cD.f1 fun hX cE=>(nq (l3 ?_))))
  cases oi fE
  exact ez results42 C6 cE m0 ⟨H,I,J,O,R,S,aW,aX,aY,T,rfl,cE.f1.f4.f4.s,gj,gk,gl,gm,go,gp,ge,gg⟩

theorem U2 {q0:z2}{q1:List Int}{r:Int×z2}(hS:SH w K Z w K [u9 g1 [V3 A a b,V6 q0.p_] 156])(l:b7 tU8 K A a b q0.b_)(m:i7 q0.p_)(f:b7 C9 K B c d q1)(hm:P8 F q0 q1=some r):
  Calls prog 43 #[.pointer (some ⟨g1,0,none⟩),V3 B c d] w fun e w'=>∃a_2 n_3 c_4 K',e= .returned (V6 r.1)∧SH w K Z w' K' [u9 g1 [V3 a_2 n_3 c_4,V6 r.2.p_] 156]∧i7 r.1∧b7 tU8 K' a_2 n_3 c_4 r.2.b_∧i7 r.2.p_:=by
 rw [P8] at hm
 refine ci func43 u ntmps43 (sr (lv (N4 u) (nr (mv u (mv u (mv u (lv (q7 underlying51 u f) ?_)))))))
 obtain⟨W,o,q⟩:=ob hm
 refine lk a2F (y8 F hS.e1 l m f.rn o) ?_
 rintro X Y ⟨s,x,y,C,rfl,i,aa,D,G⟩
 have k:=(hS.c1 i).t1
 obtain⟨H,I,J⟩:=ob q
 refine li underlying51 E4 (f.mono i.le) I fun O R ab S T=>?_
 obtain⟨rfl,U⟩:=S
 have V:E9 _ O R [V6 H]:=T
 refine lv (y7 E4 u k (V 0 _ u)) (av u (nq (l3 ?_)))
 cases oi J
 exact ey results43 ⟨s,x,y,C,u,k,U,D,G⟩

theorem b3e {q0:u5}{q1:List C8}{q2:Int}{r:(Option V7)}(hS:SH w K [] w K [])(ch:b7 D8 K A a b q0.Stops)(J:b7 L0 K B c d q0.Syns)(ac:b7 P5 K C f i q1)(cj:i7 q2)(hm:a2L F q0 q1 q2=some r):
  Calls prog 136 #[.agg #[V3 A a b,V3 B c d],V3 C f i,V6 q2] w fun e w'=>∃v_1 K',e= .returned (v_1)∧SH w K [] w' K' []∧a8A L0 K' v_1 r:=by
 rw [a2L] at hm
 refine ci func136 u ntmps136 (sr (bx u hS fun s ck ax=>?_))
 have ao:SH _ _ _ _ _ [u9 s [V3 A a b,V3 B c d] 26]:=ax
 refine lv (x8 (v:=.pointer none) u) (nr (lv (x8 (v:=.pointer none) u) (P6 (fl a3j u a9g m0 ao u (lv (q7 underlying24 u J) (lv (r_m u) (nq ?_)))))))
 obtain⟨ay,az,aA⟩:=ob hm
 refine l6 (fun E' w'=>∃v25 O,E'=[(7,v25)]∧SH w K [] w' O []∧I9 K O∧a8A L0 O v25 ay) ?_ ?_
 ·refine j7 ?_
  obtain⟨cl,aB,aC⟩:=ob az
  refine qF (fun (R:Nat) (ad:(Option V7)) E' w'=>∃v36 G,E'=[(1,V3 C f i),(2,V6 q2),(3,pt s),(7,v36),(16,V6 (q0.Syns.length:Int)),(17,V6 ((R:Nat):Int))]∧SH w K [] w' G [u9 s [V3 A a b,V3 B c d] 26]∧I9 K G∧a8A L0 G v36 ad) aB ⟨(.pointer none),K,u,ao,kr,(show a8A L0 _ _ none from u)⟩ ?_ ?_
  ·rintro R ad _ aD cm hi39 aE ⟨v36,G,rfl,U,x,hp37⟩
   refine sr (lv (s7 u u) (ns (C2 u (b8 (by omega)) (j5 (l4 (p9 (j7 (sr (mv u (av u (nr (fl a3j u a9g m0 U u ?_))))))))))))
   refine mv u ?_
   obtain⟨ae,aF,aG⟩:=ob aE
   refine li underlying24 a3v (J.mono x) aF fun H I cn aH aI=>?_
   obtain⟨V,W,X,rfl,y,aJ⟩:=aH
   have Y:E9 _ H I [V3 V W X,sv ae.To]:=aI
   refine av u (ns (p9 ?_))
   obtain⟨aK,aL,aM⟩:=ob aG
   refine l6 (IV w K [] G [(1,V3 C f i),(2,V6 q2),(3,pt s),(7,v36),(9,.pointer (some ⟨H,I,none⟩)),(16,V6 (q0.Syns.length:Int)),(17,V6 ((R:Nat):Int)),(50,.bool aK)] [u9 s [V3 A a b,V3 B c d] 26]) ?_ ?_
   ·refine E1 mixed (by kernel_rfl) U (km u (kv (B3 u) (kv (c9 a0l u) (kh (B6 T1 u (Y 0 _ u)) (kv (q7 underlying23 u y) (km u (kv (q7 underlying122 u (ac.mono x)) (km u (kv (H2 u u) ?_)))))))))
    refine kv (F9 u u) (km u (bt aL (fun o af=>?_) (fun o af=>?_)))
    ·refine kn o (kn o (kn o ?_))
     iterate 11 refine ku ?_
     refine kn o (kv (L8 u o u) (B7 ?_))
     rintro cp ⟨aN,aO,aP⟩
     cases oi af
     exact qd ⟨aN,u,aO,aP⟩
    refine kg o (i5 u) (kg o (b8y underlying188 u u hp37) (kg o (i5 u) (bt af (fun k ag=>?_) (fun k ag=>?_))))
    ·refine kg k (i5 u) (kg k (B3 u) (kg k (c9 a0l u) (kgh k (B6 T1 u (Y 0 _ u)) (kg k (q7 underlying23 u y) (kg k (i5 u) ?_)))))
     obtain⟨aQ,aR,aS⟩:=ob ag
     obtain⟨aT,aU,cq,rfl,aV,aW⟩:=a8A.get hp37 aR
     obtain⟨aX,aY,aZ,rfl,ba,cr⟩:=aV
     have bb:E9 _ aT aU [V3 aX aY aZ,sv aQ.To]:=aW
     refine kg k (B3 u) (kg k (c9 a0l u) (kgh k (B6 T1 u (bb 0 _ u)) (kg k (q7 underlying23 u ba) (kg k (W5 u u) (kg o (o0 u k u) (kv (o4 u o u) (B7 ?_)))))))
     rintro cs ⟨bc,bd,be⟩
     cases oi aS
     exact qd ⟨bc,u,bd,be⟩
    iterate 11 refine kn k ?_
    refine kg o (J6 u k u) (kv (o4 u o u) (B7 ?_))
    rintro ct ⟨bf,bg,bh⟩
    cases oi ag
    exact qd ⟨bf,u,bg,bh⟩
   rintro _ cu ⟨aa,rfl,ah,l⟩
   refine l4 (D4 aM u (fun bi ai=>?_) (fun bi ai=>?_))
   ·refine w8 (g6 (l5 (qg (lv (A3 u u (B5 hi39 (b7.max J))) (mv u (i8 ?_))))))
    cases oi ai
    exact qd ⟨v36,aa,u,ah,(x.trans l),(a8A.mono l hp37)⟩
   refine j5 (qr (lv (r_t u) (P6 (mv u (lv (B3 u) (fa a0l u (lv (y7 T1 u ah ((E9.mono l Y) 0 _ u)) (lv (q7 underlying23 u (y.mono l)) (lv (r_m u) ?_)))))))))
   refine nq ?_
   obtain⟨bj,bk,bl⟩:=ob ai
   refine l6 (IV w K [] aa [(1,V3 C f i),(2,V6 q2),(3,pt s),(7,v36),(9,.pointer (some ⟨H,I,none⟩)),(10,.bool bj),(16,V6 (q0.Syns.length:Int)),(17,V6 ((R:Nat):Int))] [u9 s [V3 A a b,V3 B c d] 26]) ?_ ?_
   ·refine j7 ?_
    obtain⟨cv,bm,bn⟩:=ob bk
    refine qF (fun (ap:Nat) (aj:Bool)=>IV w K [] aa [(1,V3 C f i),(2,V6 q2),(3,pt s),(7,v36),(9,.pointer (some ⟨H,I,none⟩)),(10,.bool aj),(16,V6 (q0.Syns.length:Int)),(17,V6 ((R:Nat):Int)),(54,V3 V W X),(55,V6 (ae.From.length:Int)),(56,V6 ((ap:Nat):Int))] [u9 s [V3 A a b,V3 B c d] 26]) bm ⟨aa,u,ah,kr⟩ ?_ ?_
    ·rintro ap aj _ bo cw hi112 bp ⟨aq,rfl,S,D⟩
     refine sr (lv (s7 u u) (ns (C2 u (b8 (by omega)) (j5 (l4 (p9 (j7 (sr (mv u ?_)))))))))
     obtain⟨bq,br,bs⟩:=ob bp
     refine li underlying23 H3 (y.mono (l.trans D)) br fun bu bv cx bz bA=>?_
     obtain⟨rfl,cy⟩:=bz
     have bB:E9 _ bu bv [sv bq]:=bA
     refine lv (y7 H3 u S (bB 0 _ u)) (av u (av u (nr (mv u (mv u (mv u (lv (y4 u u) ?_)))))))
     obtain⟨ab,bC,bD⟩:=ob bs
     refine li underlying122 J8 (ac.mono ((x.trans l).trans D)) bC fun bE bF cz bG bH=>?_
     obtain⟨rfl,cA,cB⟩:=bG
     have bI:E9 _ bE bF [sv ab.Text,V6 ab.At]:=bH
     refine lv (F5 J8 u S bI u) (al J8 S fun bJ cC bK=>?_)
     have bL:SH _ _ _ _ _ [u9 bJ [sv [],V6 0] 125,_]:=bK
     refine lw [sv ab.Text,V6 ab.At] J8 bL fun cD bM=>(nq (E1 mixed (by kernel_rfl) bM (km u (km u (bt bD (fun q ak=>?_) (fun q ak=>?_))))))
     ·refine kg q (c9 a3b u) (kgh q (z6 H3 u m0 u) (kg q (i5 u) (kg q (M3 u u) (kv (o0 u q u) (km u (bt ak (fun m am=>?_) (fun m am=>?_)))))))
      ·refine kg m (c9 a3c u) (kgh m (z6 E4 u m0 u) (kg m (i5 u) (kg m (i5 u) ?_)))
       obtain⟨ar,bN,bO⟩:=ob am
       refine D2 (t:=P5) (wg u u m) u underlying122 J8 u u (ac.mono ((x.trans l).trans D)) bN fun bP bQ cE bR bS=>?_
       obtain⟨rfl,cF,cG⟩:=bR
       have bT:E9 _ bP bQ [sv ar.Text,V6 ar.At]:=bS
       refine kg m (c9 a3c u) (kgh m (B6 E4 u (bT 1 _ u)) (kg m (i5 u) (kg m (y4 u u) (kg m (A6 u u) (kv (o0 u m u) (kv (x8 u) (B7 ?_)))))))
       rintro cH ⟨bU,bV,bW⟩
       refine x9 (qg (lv (A3 u u (B5 hi112 (b7.max (y.mono l)))) (mv u (i8 ?_))))
       cases oi bO
       exact qd ⟨bU,u,bV.s,(D.trans bW)⟩
      iterate 10 refine kn m ?_
      refine kv (J6 u m u) (kv (x8 u) (B7 ?_))
      rintro cI ⟨bX,bY,bZ⟩
      refine x9 (qg (lv (A3 u u (B5 hi112 (b7.max (y.mono l)))) (mv u (i8 ?_))))
      cases oi am
      exact qd ⟨bX,u,bY.s,(D.trans bZ)⟩
     refine kn q (kn q (kn q (kn q (kv (J6 u q u) (km u ?_)))))
     iterate 10 refine qv u u u u ?_
     refine kv (J6 u u u) (kv (x8 u) (B7 ?_))
     rintro cJ ⟨ca,cb,cc⟩
     refine x9 (qg (lv (A3 u u (B5 hi112 (b7.max (y.mono l)))) (mv u (i8 ?_))))
     cases oi ak
     exact qd ⟨ca,u,cb.s,(D.trans cc)⟩
    rintro aj _ bo cd ⟨aq,rfl,S,D⟩
    subst cd
    refine sr (lv (s7 u u) (ns (C1 u (c6 (by omega)) (w8 (g6 (g6 (l5 ?_)))))))
    cases oi bn
    exact qd ⟨aq,u,S,D⟩
   rintro _ cK ⟨au,rfl,aw,T⟩
   refine qr (mv u (nq (D4 bl u (fun ce an=>?_) (fun ce an=>?_))))
   ·refine j3 (mv u (av u (nb (qg (lv (A3 u u (B5 hi39 (b7.max J))) (mv u (i8 ?_)))))))
    cases oi an
    exact qd ⟨(.pointer (some ⟨H,I,none⟩)),au,u,aw,((x.trans l).trans T),⟨H,I,.agg #[V3 V W X,sv ae.To],u,⟨V,W,X,u,(y.mono (l.trans T)),aJ⟩,(E9.mono (l.trans T) Y)⟩⟩
   refine j5 (x9 (qg (lv (A3 u u (B5 hi39 (b7.max J))) (mv u (i8 ?_)))))
   cases oi an
   exact qd ⟨v36,au,u,aw,((x.trans l).trans T),(a8A.mono (l.trans T) hp37)⟩
  rintro ad _ aD cf ⟨v36,G,rfl,U,x,hp37⟩
  subst cf
  refine sr (lv (s7 u u) (ns (C1 u (c6 (by omega)) (w8 (g6 (g6 (l5 ?_)))))))
  cases oi aC
  exact qd ⟨v36,G,u,U.s,x,hp37⟩
 rintro _ cL ⟨v25,O,rfl,cg,cM,hp26⟩
 refine qr (mv u (av u (nq (l3 ?_))))
 cases oi aA
 exact ey results136 ⟨v25,O,u,cg,hp26⟩

theorem b0K {q0:y5}{r:y5}(hS:SH w K [] w K [])(G:i7 q0.Id)(H:b7 K5 K A a b q0.Fields)(I:b7 M5 K B c d q0.Nums)(hm:a1m F q0=some r):
  Calls prog 184 #[.agg #[V6 q0.Id,V3 A a b,V3 B c d]] w fun e w'=>∃a_2 n_3 c_4 a_6 n_7 c_8 K',e= .returned (.agg #[V6 r.Id,V3 a_2 n_3 c_4,V3 a_6 n_7 c_8])∧SH w K [] w' K' [tail (V3 a_2 n_3 c_4) 135 2,tail (V3 a_6 n_7 c_8) 202 2]∧i7 r.Id∧b7 K5 K' a_2 n_3 c_4 r.Fields∧b7 M5 K' a_6 n_7 c_8 r.Nums:=by
 rw [a1m] at hm
 refine ci func184 u ntmps184 (sr (bx u hS fun aC aX aE=>?_))
 have aF:SH _ _ _ _ _ [u9 aC [V6 q0.Id,V3 A a b,V3 B c d] 67]:=aE
 refine al F7 aF fun aG aY aH=>?_
 have aI:SH _ _ _ _ _ [u9 aG [V6 0,V3 none 0 0,V3 none 0 0] 67,_]:=aH
 refine ns ?_
 obtain⟨aZ,J,aJ⟩:=ob hm
 obtain⟨ba,O,R⟩:=ob aJ
 have v:=aI.drew
 refine j_0 (fun w'=>G8 K w'∧A9 aC [V6 q0.Id,V3 A a b,V3 B c d] w') 12 [] mixed ⟨v.hasK kr,v.hasObj m1⟩ (jv 0 u (c9 S6 u) (jh 1 u (fun _ h=>A8 E4 u u h.2) (jv 3 u (c9 a0R u) (jh 4 u (fun _ h=>A8 a6E u u h.2) (jv 7 u (c9 a1a u) (jh 8 u (fun _ h=>A8 a6Y u u h.2) (j2 2 6 u u ?_ ?_)))))))
 ·refine b0 K5 underlying64 S1 v fun bb bc bd f aD x=>(R7 ⟨x.hasK f,x.hasObj m2⟩ (j2 5 6 u u ?_ ?_))
  ·refine lp underlying64 S1 aD (H.mono f) J x fun S T U be bf m aK V=>(R7 ⟨V.hasK (f.trans m),V.hasObj m2⟩ (j1 6 u (b0 M5 underlying65 V4 V fun bg bh bi o aL W=>(R7 ⟨W.hasK ((f.trans m).trans o),W.hasObj m3⟩ (j1 9 u (lp underlying65 V4 aL (I.mono ((f.trans m).trans o)) O W fun X Y aa bj aM ab aN ac=>(R7 ⟨ac.hasK (((f.trans m).trans o).trans ab),ac.hasObj m3⟩ (jv 10 u (D3 (cs:=#[V6 q0.Id,V3 S T U,V3 X Y aa]) b5Z F7 u (by kernel_rfl)) (j1 11 u ?_)))))))))
   refine lw [V6 q0.Id,V3 S T U,V3 X Y aa] F7 ac.f2 fun bk y=>(R7 ⟨y.hasK (((f.trans m).trans o).trans ab),y.hasObj m3⟩ (jd (l4 (l3 ?_))))
   cases oi R
   exact ez results184 F7 y m0 ⟨S,T,U,X,Y,aa,aM,u,y.f1.f2.s,G,(aK.mono (o.trans ab)),aN⟩
  refine b0 M5 underlying65 V4 x fun bl bm bn i aO ad=>(R7 ⟨ad.hasK (f.trans i),ad.hasObj m3⟩ (j1 5 u (lp underlying64 S1 (aD.mono i) (H.mono (f.trans i)) J ad.f1 fun ae af ag bo bp q aP ah=>(R7 ⟨ah.hasK ((f.trans i).trans q),ah.hasObj m3⟩ (j1 9 u (lp underlying65 V4 (aO.mono q) (I.mono ((f.trans i).trans q)) O ah.f1 fun ai aj ak bq aQ am aR an=>(R7 ⟨an.hasK (((f.trans i).trans q).trans am),an.hasObj m3⟩ (jv 10 u (D3 (cs:=#[V6 q0.Id,V3 ae af ag,V3 ai aj ak]) b5Z F7 u (by kernel_rfl)) (j1 11 u ?_)))))))))
  refine lw [V6 q0.Id,V3 ae af ag,V3 ai aj ak] F7 an.f2 fun br C=>(R7 ⟨C.hasK (((f.trans i).trans q).trans am),C.hasObj m3⟩ (jd (l4 (l3 ?_))))
  cases oi R
  exact ez results184 F7 C m0 ⟨ae,af,ag,ai,aj,ak,aQ,u,C.f1.f2.s,G,(aP.mono am),aR⟩
 refine b0 M5 underlying65 V4 v fun bs bu bv k aS ao=>(R7 ⟨ao.hasK k,ao.hasObj m2⟩ (j1 2 u (b0 K5 underlying64 S1 ao fun bz bA bB l aT ap=>(R7 ⟨ap.hasK (k.trans l),ap.hasObj m3⟩ (j1 5 u (lp underlying64 S1 aT (H.mono (k.trans l)) J ap fun aq ar au bC bD s aU aw=>(R7 ⟨aw.hasK ((k.trans l).trans s),aw.hasObj m3⟩ (j1 9 u (lp underlying65 V4 (aS.mono (l.trans s)) (I.mono ((k.trans l).trans s)) O aw.f1 fun ax ay az bE aV aA aW aB=>?_)))))))))
 refine R7 ⟨aB.hasK (((k.trans l).trans s).trans aA),aB.hasObj m3⟩ (jv 10 u (D3 (cs:=#[V6 q0.Id,V3 aq ar au,V3 ax ay az]) b5Z F7 u (by kernel_rfl)) (j1 11 u (lw [V6 q0.Id,V3 aq ar au,V3 ax ay az] F7 aB.f2 fun bF D=>(R7 ⟨D.hasK (((k.trans l).trans s).trans aA),D.hasObj m3⟩ (jd (l4 (l3 ?_)))))))
 cases oi R
 exact ez results184 F7 D m0 ⟨aq,ar,au,ax,ay,az,aV,u,D.f1.f2.s,G,(aU.mono aA),aW⟩

theorem a9T {q0:List y5}{r:(List y5)}(hS:SH w K [] w K [])(x:b7 F8 K A a b q0)(hm:a0G F q0=some r):
  Calls prog 113 #[V3 A a b] w fun e w'=>∃a_1 n_2 c_3 K',e= .returned (V3 a_1 n_2 c_3)∧SH w K [] w' K' [tail (V3 a_1 n_2 c_3) 67 3]∧b7 F8 K' a_1 n_2 c_3 r:=by
 rw [a0G] at hm
 refine ci func113 u ntmps113 (sr (lv (r_n u) (nr (b0 F8 underlying27 F7 hS fun a5 w6 y B ag ah=>(av u (P6 (mv u (lv (q7 underlying27 u (x.mono B)) (lv (r_m u) ?_)))))))))
 refine nq ?_
 obtain⟨ai,aj,ak⟩:=ob hm
 refine l6 (fun E' w'=>∃k l m o,E'=[(3,V3 k l m)]∧SH w K [] w' o [tail (V3 k l m) 67 3]∧I9 y o∧b7 F8 o k l m ai) ?_ ?_
 ·refine j7 ?_
  obtain⟨bb,am,an⟩:=ob aj
  refine qF (fun (ad:Nat) (C:(List y5)) E' w'=>∃c d f i,E'=[(3,V3 c d f),(7,V3 A a b),(8,V6 (q0.length:Int)),(9,V6 ((ad:Nat):Int))]∧SH w K [] w' i [tail (V3 c d f) 67 3]∧I9 y i∧b7 F8 i c d f C) am ⟨a5,0,0,y,u,ah,kr,ag⟩ ?_ ?_
  ·rintro ad C _ ao bc hi37 ap ⟨c,d,f,i,rfl,q,s,D⟩
   refine sr (lv (s7 u u) (ns (C2 u (b8 (by omega)) (j5 (l4 (p9 (j7 (sr ?_))))))))
   obtain⟨G,aq,ar⟩:=ob ap
   refine li underlying27 F7 (x.mono (B.trans s)) aq fun au aw bd ax ay=>?_
   obtain⟨H,I,J,O,R,S,rfl,az,aA,aB⟩:=ax
   have aC:E9 _ au aw [V6 G.Id,V3 H I J,V3 O R S]:=ay
   refine lv (F5 F7 u q aC u) (al F7 q fun aD be aE=>?_)
   have aF:SH _ _ _ _ _ [u9 aD [V6 0,V3 none 0 0,V3 none 0 0] 67,_]:=aE
   refine lw [V6 G.Id,V3 H I J,V3 O R S] F7 aF fun bf T=>(nq (j3 (mv u (lv (n8 (ds:=[V6 G.Id,V3 H I J,V3 O R S]) F7 u m0 T u u) ?_))))
   obtain⟨U,aG,aH⟩:=ob ar
   refine lk c6m (b0K F T.enter0 az aA aB aG) ?_
   rintro bg bh ⟨V,W,X,Y,aa,ab,bi,rfl,ac,aI,aJ,aK⟩
   have aL:=(T.c0 ac).t4
   refine lb F8 (.agg #[V6 U.Id,V3 V W X,V3 Y aa ab]) [V6 U.Id,V3 V W X,V3 Y aa ab] U underlying27 F7 ⟨V,W,X,Y,aa,ab,u,aI,aJ,aK⟩ aL fun bj bk bl ae aM aN=>?_
   obtain⟨bm,aO,aP⟩:=ob aH
   refine lp underlying27 F7 (D.mono (ac.le.trans ae)) aM aO aN.f4 fun aQ aR aS bn aT aU aV aW=>(av u (nb (qg (lv (A3 u u (B5 hi37 (b7.max (x.mono B)))) (mv u (i8 ?_))))))
   cases oi aP
   exact qd ⟨aQ,aR,aS,aT,u,aW.s,(((s.trans ac.le).trans ae).trans aU),aV⟩
  rintro C _ ao aX ⟨c,d,f,i,rfl,q,s,D⟩
  subst aX
  refine sr (lv (s7 u u) (ns (C1 u (c6 (by omega)) (w8 (g6 (g6 (l5 ?_)))))))
  cases oi an
  exact qd ⟨c,d,f,i,u,q,s,D⟩
 rintro _ bo ⟨k,l,m,o,rfl,aY,bp,aZ⟩
 refine qr (mv u (av u (nq (l3 ?_))))
 cases oi ak
 exact ey results113 ⟨k,l,m,o,u,aY,aZ⟩

theorem a9S {q0:B1}{q1:q9}{q2:C8}{r:Bool}(hS:SH w K Z w K [u9 c [sv q1] 9,u9 d [sv q2.Text,V6 q2.At] 125])(o:q0.Field.length≤maxLen)(q:q0.Term.length≤maxLen)(s:b7 Z0 K A a b q0.Posts)(x:q1.length≤maxLen)(y:q2.Text.length≤maxLen)(B:i7 q2.At)(hm:a2r F q0 q1 q2=some r):
  Calls prog 186 #[.agg #[sv q0.Field,sv q0.Term,V3 A a b],.pointer (some ⟨c,0,none⟩),.pointer (some ⟨d,0,none⟩)] w fun e w'=>∃K',e= .returned (.bool r)∧SH w K Z w' K' [u9 c [sv q1] 9,u9 d [sv q2.Text,V6 q2.At] 125]:=by
 rw [a2r] at hm
 refine ci func186 u ntmps186 (sr (bx u hS fun l C m=>?_))
 have i:SH _ _ _ _ _ [u9 l [sv q0.Field,sv q0.Term,V3 A a b] 104,_,_]:=m
 refine lv (P2 u) (nr (fl a1Q u H3 m0 i u (lv (u6 H3 u m1 i u) (lv (M3 u u) (mv u (bt hm (fun f k=>?_) (fun f k=>?_)))))))
 ·refine lg f (c9 a09 u) (lg f (u6 H3 u m0 i u) (lg f (c9 a3b u) (lg f (u6 H3 u m2 i u) (lg f (M3 u u) (lv (o0 u f u) (av u (nq (l3 ?_))))))))
  cases oi k
  exact ey results186 ⟨K,u,i.s⟩
 iterate 5 refine lu f ?_
 refine lv (J6 u f u) (av u (nq (l3 ?_)))
 cases oi k
 exact ey results186 ⟨K,u,i.s⟩

theorem a1v {q0:List B1}{q1c0:q9}{q1c1:C8}{r:Int}(hS:SH w K Z w K [u9 c [sv q1c0] 9,u9 d [sv q1c1.Text,V6 q1c1.At] 125])(f:b7 B8 K A a b q0)(O:q1c0.length≤maxLen)(R:q1c1.Text.length≤maxLen)(S:i7 q1c1.At)(hm:G2 F q0 q1c0 q1c1=some r):
  Calls prog 185 #[V3 A a b,.func (.func 186) #[] #[.pointer (some ⟨c,0,none⟩),.pointer (some ⟨d,0,none⟩)]] w fun e w'=>∃K',e= .returned (V6 r)∧SH w K Z w' K' [u9 c [sv q1c0] 9,u9 d [sv q1c1.Text,V6 q1c1.At] 125]∧i7 r:=by
 rw [G2] at hm
 refine ci func185 u ntmps185 (sr (lv (N4 u) (P6 (mv u (lv (q7 underlying28 u f) (lv (r_m u) (nq ?_)))))))
 obtain⟨T,U,i⟩:=ob hm
 refine l6 (IE T w K Z K [] [u9 c [sv q1c0] 9,u9 d [sv q1c1.Text,V6 q1c1.At] 125]) ?_ ?_
 ·refine j7 ?_
  obtain⟨aq,V,q⟩:=ob U
  refine qf (fun (s:Nat) (x:Unit)=>IV w K Z K [(0,V3 A a b),(1,.func (.func 186) #[] #[pt c,pt d]),(7,V6 (q0.length:Int)),(8,V6 ((s:Nat):Int))] [u9 c [sv q1c0] 9,u9 d [sv q1c1.Text,V6 q1c1.At] 125]) V ⟨K,u,hS,kr⟩ ?_ ?_
  ·rintro s x _ W ar hi29 X Y ⟨y,rfl,k,l⟩
   refine sr (lv (s7 u u) (ns (C2 u (b8 (by omega)) (j5 (l4 (p9 (j7 (sr (mv u (av u (nr (mv u ?_))))))))))))
   refine mv u (mv u ?_)
   obtain⟨m,aa,ab⟩:=ob X
   refine li underlying28 H6 (f.mono l) aa fun ac ad au ae af=>?_
   obtain⟨B,C,D,rfl,ag,ah,ai⟩:=ae
   have aj:E9 _ ac ad [sv m.Field,sv m.Term,V3 B C D]:=af
   refine lv (F5 H6 u k aj u) ?_
   obtain⟨aw,ak,al⟩:=ob ab
   have G:=k.f1.f1
   refine A0 wn u (b3D (vs:=[.agg #[sv m.Field,sv m.Term,V3 B C D]]) (cap:=#[pt c,pt d]) c6o u u) (a9S F G.e2 ag ah ai O R S ak) ?_
   rintro ax ay ⟨H,rfl,I⟩
   refine⟨_,u,?_⟩
   have J:=(G.c2 I).t2
   refine nq (D4 al u (fun am o=>?_) (fun am o=>?_))
   ·refine sr (mv u (av u (nq (l3 (j6 (g8 (g8 ?_)))))))
    cases oi o
    cases Y _ u
    refine j6 (g8 ?_)
    cases oi q
    refine g8 ?_
    cases oi i
    exact ey results185 ⟨H,u,J,(b2D hi29 (b7.max f))⟩
   refine j5 (x9 (qg (lv (A3 u u (B5 hi29 (b7.max f))) (mv u (i8 ?_)))))
   cases oi o
   exact qd ⟨_,u,H,u,J,(l.trans I.le)⟩
  rintro x _ W an ⟨y,rfl,k,l⟩
  subst an
  refine sr (lv (s7 u u) (ns (C1 u (c6 (by omega)) (w8 (g6 (g6 (l5 ?_)))))))
  cases oi q
  exact H9 ⟨_,y,u,u,k,l⟩ trivial
 rintro _ az ⟨aA,ao,rfl,rfl,ap,aB⟩
 have i:=F6 i
 refine qr (lv (x8 (v:=V6 (-1)) u) (nq (l3 ?_)))
 cases oi i
 exact ey results185 ⟨ao,u,ap,(by decide :i7 (-1))⟩

theorem b1Y {g:Nat}{a:Option Addr}{n:Nat}{c:Nat}{lay:List J1}{q0:A7}{q1:q9}{q2:C8}{q3:Int}{r:A7}(aJ:SH w K (List.flatMap E5.gs [u9 g [V3 A b d,V3 a n c] 30,a7Y (Q0 104 174 3 a n c lay)]) w K [u9 g [V3 A b d,V3 a n c] 30,a7Y (Q0 104 174 3 a n c lay)])(aK:b7 F8 K A b d q0.Docs)(U:a65 lay q0.Entries)(ap:q1.length≤maxLen)(aq:q2.Text.length≤maxLen)(ag:i7 q2.At)(aL:i7 q3)(hm:a10 F q0 q1 q2 q3=some r):
  Calls prog 114 #[.pointer (some ⟨g,0,none⟩),sv q1,.agg #[sv q2.Text,V6 q2.At],V6 q3] w fun e w'=>∃a_1 n_2 c_3 a_4 n_5 c_6 lay_7 K',e= .returned (.tuple #[])∧SH w K (List.flatMap E5.gs [u9 g [V3 A b d,V3 a n c] 30,a7Y (Q0 104 174 3 a n c lay)]) w' K' [u9 g [V3 a_1 n_2 c_3,V3 a_4 n_5 c_6] 30,a7Y (Q0 104 174 3 a_4 n_5 c_6 lay_7)]∧b7 F8 K' a_1 n_2 c_3 r.Docs∧a65 lay_7 r.Entries:=by
 rw [a10] at hm
 obtain⟨k,aM,h1⟩:=ob hm
 obtain⟨es,B,h2⟩:=ob h1
 obtain⟨en,ar,h3⟩:=ob h2
 obtain⟨ps,C,h4⟩:=ob h3
 obtain⟨p,ah,h5⟩:=ob h4
 obtain⟨at_,V,h6⟩:=ob h5
 cases oi h6
 have aT:SH w K (List.flatMap E5.gs [u9 g [V3 A b d,V3 a n c] 30,a7Y (Q0 104 174 3 a n c lay)]) w K (a1h 104 a n c lay::((lay).flatMap (J1.items 174 3)++[u9 g [V3 A b d,V3 a n c] 30])):=(aJ.perm (List.Perm.swap _ _ _)).unpack
 have aU:SH w K (List.flatMap E5.gs [u9 g [V3 A b d,V3 a n c] 30,a7Y (Q0 104 174 3 a n c lay)]) w K (u9 g [V3 A b d,V3 a n c] 30::a1h 104 a n c lay::(lay).flatMap (J1.items 174 3)):=aT.perm (by rw [←List.cons_append];exact List.perm_append_singleton _ _ |>.symm)
 generalize hMM:(List.flatMap E5.gs [u9 g [V3 A b d,V3 a n c] 30,a7Y (Q0 104 174 3 a n c lay)])=MM at *
 refine ci func114 rfl ntmps114 (sr (bx rfl aU fun i w5 hS3'=>?_))
 have aW:SH w K MM w5 K (u9 i [sv q1] 9::u9 g [V3 A b d,V3 a n c] 30::a1h 104 a n c lay::(lay).flatMap (J1.items 174 3)):=hS3'
 refine bx rfl aW fun f w6 hS4'=>?_
 have au:SH w K MM w6 K (u9 f [sv q2.Text,V6 q2.At] 125::u9 i [sv q1] 9::u9 g [V3 A b d,V3 a n c] 30::a1h 104 a n c lay::(lay).flatMap (J1.items 174 3)):=hS4'
 refine nr (mv rfl (lv (B3 rfl) (fl L4 rfl a0Y m2 au rfl (lv (b7g (vs:=[pt i,pt f]) rfl) ?_))))
 obtain⟨gs,hgs⟩: ∃gs,gs=(a1h 104 a n c lay::(lay).flatMap (J1.items 174 3)).flatMap E5.gs:=⟨_,rfl⟩
 have s:SH w K MM w6 K ([u9 i [sv q1] 9,u9 f [sv q2.Text,V6 q2.At] 125]++(u9 g [V3 A b d,V3 a n c] 30::a1h 104 a n c lay::(lay).flatMap (J1.items 174 3))):=au.perm (List.Perm.swap _ _ _)
 have hnd:=s.nodup
 rw [List.flatMap_append,List.nodup_append,List.flatMap_cons] at hnd
 have hg56:i∉gs∧f∉gs:=by
  rw [hgs]
  exact⟨fun hb=>hnd.2.2 i (by simp [u9,Go.Fk.one]) i (List.mem_append_right _ hb) rfl,fun hb=>hnd.2.2 f (by simp [u9,Go.Fk.one]) f (List.mem_append_right _ hb) rfl⟩
 have hseg:=c2z (TE:=104) (TP:=174) (TI:=3) (gs:=gs) s (fun it hi=>List.mem_append_right _ (List.mem_cons_of_mem _ hi)) (fun it hi b hb=>by rw [hgs];exact List.mem_flatMap.2 ⟨it,hi,hb⟩) U
 have hlnd:=s.lend (Kin:=b0W K w6 gs) (b4Z s.holds) (fun it hi=>by
  rcases List.mem_cons.1 hi with rfl | hi
  ·exact b9m (s.items _ (List.mem_cons_self ..)) hg56.1
  rcases List.mem_singleton.1 hi with rfl
  exact b9m (s.items _ (List.mem_cons_of_mem _ (List.mem_cons_self ..))) hg56.2)
 refine lk c6n (a1v F hlnd hseg.1 ap aq ag aM) ?_
 rintro e7 w7 ⟨K7,rfl,hS7',bz⟩
 have aX:SH w K MM w7 K ([u9 i [sv q1] 9,u9 f [sv q2.Text,V6 q2.At] 125]++(u9 g [V3 A b d,V3 a n c] 30::a1h 104 a n c lay::(lay).flatMap (J1.items 174 3))):=s.lent (b3G s.holds) hS7' rfl (fun it hi=>by
  rcases List.mem_cons.1 hi with rfl | hi
  ·exact c2b (hS7'.items _ (List.mem_cons_self ..)) ((b3G s.holds).trans hS7'.le)
  rcases List.mem_singleton.1 hi with rfl
  exact c2b (hS7'.items _ (List.mem_cons_of_mem _ (List.mem_cons_self ..))) ((b3G s.holds).trans hS7'.le))
 have aj:SH w K MM w7 K (u9 f [sv q2.Text,V6 q2.At] 125::u9 i [sv q1] 9::u9 g [V3 A b d,V3 a n c] 30::a1h 104 a n c lay::(lay).flatMap (J1.items 174 3)):=aX.perm (List.Perm.swap _ _ _)
 refine av rfl (P6 (mv rfl (lv (s7 rfl rfl) (nq (l6 (fun E' w'=>∃a2 l m lay2 D,E'=[(0,pt g),(3,V6 q3),(6,pt f),(8,V6 (cond (decide (k<0)) (q0.Entries.length:Int) k))]∧SH w K MM w' D (u9 f [sv q2.Text,V6 q2.At] 125::u9 i [sv q1] 9::u9 g [V3 A b d,V3 a2 l m] 30::a1h 104 a2 l m lay2::(lay2).flatMap (J1.items 174 3))∧I9 K D∧a65 lay2 es) ?_ ?_)))))
 ·refine P1 rfl (fun hb=>?_) (fun hb=>?_)
  ·rw [hb] at B ⊢
   simp only [i9] at B ⊢
   refine sr (mv rfl (lv (B3 rfl) (fl L4 rfl a0Y m2 aj rfl (lv (a6A underlying28 rfl hseg.2) (av rfl (nq ?_))))))
   have G:=aj.drew
   refine wh1 (fun w'=>G8 K w'∧A9 i [sv q1] w'∧A9 f [sv q2.Text,V6 q2.At] w') (fun w'=>A9 g [V3 A b d,V3 a n c] w') 13 [(4,10),(10,13)] mixed ⟨G.hasK kr,G.hasObj m1,G.hasObj m0⟩ (fun _=>G.hasObj (.tail _ (.tail _ (.head _)))) (gt (i5 rfl) (gt (i5 rfl) (gt (B3 rfl) (gt (c9 L4 rfl) (gf (fun _ h=>A8 a0Y rfl rfl h) (gh (fun _ h=>A8 H3 rfl rfl h.2.1) (gt (c9 a3b rfl) (gh (fun _ h=>A8 H3 rfl rfl h.2.2) (gt (D3 (cs:=#[sv q1,sv q2.Text,V3 none 0 0]) c4y H6 rfl (by kernel_rfl)) ?_)))))))))
   refine gn (H0 (t:=c01 3) (n:=1) (pv:=[(0,.agg #[sv q1,sv q2.Text,V3 none 0 0])]) (cs:=[sv q1,sv q2.Text,V3 none 0 0]) (xs:=[([sv q1,sv q2.Text,V3 none 0 0]:List Value)]) wn rfl underlying28 H6 rfl rfl rfl (by kernel_rfl) rfl rfl (E7 (t:=c01 3) (u:=.agg #[sv q1,sv q2.Text,V3 none 0 0]) (z:=([sv q1,sv q2.Text,V3 none 0 0]:List Value)) ⟨rfl,rfl,by simp [Value.oneCell',sv]⟩ a0o) G fun a9 w9 K9 W ay hS9'=>?_)
   obtain⟨b9,o9,rfl⟩:=b7a ay
   have aZ:=b9C ay
   have H:=hS9'.drop
   refine i8 (qh ⟨H.hasK W,H.hasObj m1,H.hasObj m0⟩ (fun _=>H.hasObj (.tail _ (.tail _ (.head _)))) ?_)
   unfold J5 at B
   split at B
   case isFalse=>cases B
   rename_i hbd
   cases B
   have hnl:n=q0.Entries.length:=hseg.2
   have hS9t:SH w K MM w9 K9 (W4 (V3 a n c) (lay.flatMap J1.cells) 104 3::(u9 f [sv q2.Text,V6 q2.At] 125::u9 i [sv q1] 9::u9 g [V3 A b d,V3 a n c] 30::(lay).flatMap (J1.items 174 3))):=H.perm (List.perm_middle (l₁:=[_,_,_])).symm
   refine gn ?_
   have hcl9:(lay.flatMap J1.cells).length=n*3:=by rw [a4k,←b3L hS9t (List.mem_cons_self ..)]
   refine a9i wn rfl underlying28 H6 rfl rfl rfl (by decide) rfl aZ (by simp [Value.oneCell',sv]) hcl9 (by simp at hbd;omega) (by simp at hbd;omega) hS9t fun X Y bD I=>(i8 (qh ⟨I.hasK W,I.hasObj m2,I.hasObj m1⟩ (fun _=>I.hasObj (.tail _ (.tail _ (.tail _ (.head _))))) (gt (B3 rfl) (gt (c9 L4 rfl) (gn (ls [V3 A b d,V3 (some ⟨X,0,none⟩) (n+1) Y] (V3 (some ⟨X,0,none⟩) (n+1) Y) a0Y I.f3 fun ba aa=>(i8 (qh ⟨aa.hasK W,aa.hasObj m3,aa.hasObj m2⟩ (fun h=>nomatch h) (gd' ?_)))))))))
   have bb:=SH.rowNil aa 174 2
   have bc:SH w K MM ba K9 (u9 f [sv q2.Text,V6 q2.At] 125::u9 i [sv q1] 9::u9 g [V3 A b d,V3 (some ⟨X,0,none⟩) (n+1) Y] 30::a1h 104 (some ⟨X,0,none⟩) (n+1) Y (lay++[J1.mk q1 q2.Text [] none 0 0])::((lay++[J1.mk q1 q2.Text [] none 0 0])).flatMap (J1.items 174 3)):=by
    have e1:(lay++[J1.mk q1 q2.Text [] none 0 0]).flatMap J1.cells=lay.flatMap J1.cells++[sv q1,sv q2.Text,V3 none 0 0]:=by rw [List.flatMap_append];rfl
    have e2:((lay++[J1.mk q1 q2.Text [] none 0 0])).flatMap (J1.items 174 3)=(lay).flatMap (J1.items 174 3)++[W4 (V3 none 0 0) [] 174 2]:=by rw [List.flatMap_append];rfl
    unfold a1h
    rw [e1,e2]
    exact bb.perm ((show List.Perm ((_::_::_::_::(lay).flatMap (J1.items 174 3))++[_]) _ from List.perm_append_singleton _ _).trans (.cons _ (List.Perm.append_right ((lay).flatMap (J1.items 174 3)) (List.perm_append_comm (l₁:=[_,_]) (l₂:=[_,_])))))
   refine H9 ⟨_,_,_,_,K9,rfl,bc,W,fun x hx=>?_,?_⟩ ⟨rfl,rfl,rfl,rfl,trivial⟩
   ·rcases List.mem_append.1 hx with hx | hx
    ·exact U.1 x hx
    rcases List.mem_singleton.1 hx with rfl
    exact⟨ap,aq,by simp⟩
   rw [List.map_append,U.2];rfl
  rw [hb] at B ⊢
  simp only [i6] at B ⊢
  cases oi B
  exact j5 (qd ⟨a,n,c,lay,K,rfl,aj,.refl _,U⟩)
 rintro _ az ⟨a2,l,m,lay2,D,rfl,am,aA,hlay2⟩
 generalize hkk:(cond (decide (k<0)) (q0.Entries.length:Int) k)=kk at *
 obtain⟨hok2,hes⟩:=hlay2
 obtain⟨el,aB,hel⟩:=b7i (hes▸ar:u0 (lay2.map J1.x) kk=some en)
 obtain⟨pre,post,hsplit,hpre,bE⟩:=c2A aB
 have hn2:=b3L am m3
 have hn2e:l=es.length:=by rw [←hes,List.length_map];exact hn2
 obtain⟨gE,rfl⟩:=SH.rowI_at am m3 hn2 aB
 obtain⟨R,hR⟩: ∃R,R=((pre).flatMap (J1.items 174 3)++(post).flatMap (J1.items 174 3)):=⟨_,rfl⟩
 have y:SH w K MM az D (u9 f [sv q2.Text,V6 q2.At] 125::u9 i [sv q1] 9::u9 g [V3 A b d,V3 (some ⟨gE,0,none⟩) l m] 30::a1h 104 (some ⟨gE,0,none⟩) l m (pre++el::post)::J1.row 174 el::(el.posts.map (V2.item 3)++R)):=by
  rw [hR]
  have J:=am
  rw [hsplit] at J
  exact J.perm ((List.Perm.append_left [_,_,_] (b40 (TE:=104) (TP:=174) (TI:=3))).symm)
 have helok:el.ok:=hok2 el (by rw [hsplit];simp)
 have hnP:el.n=el.posts.length:=b3K y m4
 have hhead:=b3I (pre:=pre) (post:=post) (e:=el) (o:=kk.toNat*3+2) (by rw [hpre])
 have hpl:el.posts.length≤maxLen:=b7c y m4 hnP
 have henp:en.Posts=el.posts.map V2.x:=by rw [←hel];rfl
 refine qr (mv rfl (lv (B3 rfl) (fl L4 rfl a0Y m2 y rfl (mv rfl (lv (a49 (t:=B8) underlying28 H6 rfl rfl rfl hn2e ar) (av rfl (nr (mv rfl (lv (B3 rfl) ?_)))))))))
 refine fa Q3 rfl (lv (a4g a1W rfl rfl hhead rfl (y.hasRow (.tail _ (.tail _ (.tail _ (.head _)))))) (lv (a6A underlying102 rfl hnP) (lv (H2 rfl rfl) (av rfl (ns (p9 (l6 (fun E' w'=>E'=[(3,V6 q3),(6,pt f),(9,.pointer (some ⟨gE,kk.toNat*B8.size,none⟩)),(10,V6 (A1 ((el.posts.length:Int)-1))),(62,.bool (O5 en.Posts q3))]∧w'=az) ?_ ?_)))))))
 ·refine j3 (mv rfl (lv (s7 rfl rfl) (mv rfl ?_)))
  rcases List.eq_nil_or_concat el.posts with hnil | ⟨ps0,p0,hcat⟩
  ·have hb:decide (A1 ((el.posts.length:Int)-1)<0)=true:=by rw [b2H hpl,hnil];rfl
   have hnp:O5 en.Posts q3=true:=by rw [henp,hnil];rfl
   rw [hnp]
   iterate 10 refine lu hb ?_
   refine lv (L8 rfl hb rfl) (i8 ?_)
   exact qd ⟨rfl,rfl⟩
  rw [List.concat_eq_append] at hcat
  have hlp:el.posts.length=ps0.length+1:=by rw [hcat];simp
  have hw:A1 ((el.posts.length:Int)-1)=(ps0.length:Int):=by rw [b2H hpl,hlp];omega
  have hb:decide (A1 ((el.posts.length:Int)-1)<0)=false:=by rw [hw];exact c6 (by omega)
  have hnp:O5 en.Posts q3= !(p0.doc==q3):=by rw [henp,hcat,List.map_append];simp [O5,V2.x]
  rw [hnp]
  have hzp:u0 en.Posts (A1 ((el.posts.length:Int)-1))=some p0.x:=by rw [henp,hcat,List.map_append];exact b5X (by rw [←hcat,hw];simp)
  have hnPe:el.n=en.Posts.length:=by rw [henp,List.length_map];exact hnP
  obtain⟨gP,hgP⟩:=SH.rowI_at y m4 hnPe hzp
  have hdoc:(el.posts.flatMap V2.cells)[(A1 ((el.posts.length:Int)-1)).toNat*2+0]? =some (V6 p0.doc):=by rw [hcat];exact b3J (k:=0) (by rw [←hcat,hw];simp)
  refine lg hb (i5 rfl) (lg hb (B3 rfl) (lg hb (c9 Q3 rfl) (lg hb (a4g a1W rfl rfl hhead rfl (y.hasRow (.tail _ (.tail _ (.tail _ (.head _)))))) (lg hb (i5 rfl) (lg hb (a49 (t:=Z0) underlying102 X3 rfl rfl hgP hnPe hzp) (lg hb (c9 a5N rfl) (lg hb (a4g E4 rfl rfl hdoc hgP (y.hasRow (.tail _ (.tail _ (.tail _ (.tail _ (.head _))))))) (lg hb (i5 rfl) (lg hb (S7 rfl rfl) ?_)))))))))
  refine lv (o4 rfl hb rfl) (i8 ?_)
  exact qd ⟨rfl,rfl⟩
 rintro _ _ ⟨rfl,rfl⟩
 refine l4 (l6 (fun E' w'=>∃el2 ps0 pl K3,E'=[(6,pt f),(9,.pointer (some ⟨gE,kk.toNat*B8.size,none⟩)),(10,V6 (ps0.length:Int))]∧SH w K MM w' K3 (u9 f [sv q2.Text,V6 q2.At] 125::u9 i [sv q1] 9::u9 g [V3 A b d,V3 (some ⟨gE,0,none⟩) l m] 30::a1h 104 (some ⟨gE,0,none⟩) l m (pre++el2::post)::J1.row 174 el2::(pl.item 3::(ps0.map (V2.item 3)++R)))∧I9 K K3∧el2.ok∧el2.field=el.field∧el2.term=el.term∧el2.posts=ps0++[pl]∧ps=el2.posts.map V2.x) ?_ ?_)
 ·refine P1 rfl (fun hb=>?_) (fun hb=>?_)
  ·rw [hb] at C
   simp only [i9] at C
   refine sr (mv rfl (mv rfl (lv (B3 rfl) (fa Q3 rfl (lv (a4g a1W rfl rfl hhead rfl (y.hasRow (.tail _ (.tail _ (.tail _ (.head _)))))) (mv rfl (lv (D3 (cs:=#[V6 q3,V3 none 0 0]) c4C X3 rfl (by kernel_rfl)) (H0 (t:=c01 2) (n:=1) (pv:=[(0,.agg #[V6 q3,V3 none 0 0])]) (cs:=[V6 q3,V3 none 0 0]) (xs:=[([V6 q3,V3 none 0 0]:List Value)]) wn rfl underlying102 X3 rfl rfl rfl (by kernel_rfl) rfl rfl (E7 (t:=c01 2) (u:=.agg #[V6 q3,V3 none 0 0]) (z:=([V6 q3,V3 none 0 0]:List Value)) ⟨rfl,rfl,by simp [Value.oneCell']⟩ a0o) y fun bF bG aC bd aD hS22'=>?_))))))))
   obtain⟨bH,bI,rfl⟩:=b7a aD
   have be:=b9C aD
   have bf:=hS22'.drop
   unfold J5 at C
   split at C
   case isFalse=>cases C
   rename_i hbd
   cases C
   have hbd2:(el.n+1)*32≤140737488355328:=by rw [henp] at hbd;simp at hbd;rw [hnP];exact hbd
   refine a9i wn rfl underlying102 X3 rfl rfl rfl (by decide) rfl be (by simp [Value.oneCell']) (by rw [a4j,hnP]) (by omega) hbd2 bf.f4 fun aE c24 bJ bg=>(lv (B3 rfl) (fa Q3 rfl (b5c wn a1W rfl rfl rfl bg.f4 (by have:=(i4.1 hhead).1;exact this) ?_)))
   intro bh bi
   refine nq (j3 (mv rfl (lv (y4 rfl rfl) (lv (b9H rfl (congrArg (Value.int .i64) (c3S hpl))) (i8 ?_)))))
   obtain⟨el2,hel2⟩: ∃el2:J1,el2=⟨el.field,el.term,el.posts++[⟨q3,[],none,0,0⟩],some ⟨aE,0,none⟩,el.n+1,c24⟩:=⟨_,rfl⟩
   have hset:=b7j (pre:=pre) (post:=post) (e:=el) (e':=el2) (o:=kk.toNat*3+2) (by rw [hpre]) (by rw [hel2]) (by rw [hel2])
   have bj:SH w K MM bh aC (W4 (V3 (some ⟨gE,0,none⟩) l m) ((pre++el2::post).flatMap J1.cells) 104 3::J1.row 174 el2::u9 f [sv q2.Text,V6 q2.At] 125::u9 i [sv q1] 9::u9 g [V3 A b d,V3 (some ⟨gE,0,none⟩) l m] 30::(el.posts.map (V2.item 3)++R)):=by
    have e1:el2.posts.flatMap V2.cells=el.posts.flatMap V2.cells++[V6 q3,V3 none 0 0]:=by rw [hel2,List.flatMap_append];rfl
    have e2:el2.a=some ⟨aE,0,none⟩:=by rw [hel2]
    have e3:el2.n=el.n+1:=by rw [hel2]
    have e4:el2.c=c24:=by rw [hel2]
    rw [←hset]
    unfold J1.row
    rw [e1,e2,e3,e4]
    exact bi
   have bk:=SH.rowNil bj 3 1
   refine H9 ⟨el2,el.posts,⟨q3,[],none,0,0⟩,aC,rfl,bk.perm ?_,aA.trans bd,?_,by rw [hel2],by rw [hel2],by rw [hel2],?_⟩ ⟨rfl,rfl,rfl,trivial⟩
   ·exact(List.Perm.append_left [_,_,_,_,_] (List.Perm.refl _)).trans ((List.perm_middle (l₁:=[_,_,_,_,_])).trans (.cons _ (List.Perm.append_right _ (List.perm_append_comm (l₁:=[_,_,_]) (l₂:=[_,_])))))
   ·rw [hel2]
    refine⟨helok.1,helok.2.1,fun q hq=>?_⟩
    rcases List.mem_append.1 hq with hq | hq
    ·exact helok.2.2 q hq
    rcases List.mem_singleton.1 hq with rfl
    exact⟨aL,by simp⟩
   rw [hel2,henp,List.map_append];rfl
  rw [hb] at C
  simp only [i6] at C
  cases oi C
  refine j5 ?_
  rcases List.eq_nil_or_concat el.posts with hnil | ⟨ps0,p0,hcat⟩
  ·rw [henp,hnil] at hb;cases hb
  rw [List.concat_eq_append] at hcat
  have hlp:el.posts.length=ps0.length+1:=by rw [hcat];simp
  have hw:A1 ((el.posts.length:Int)-1)=(ps0.length:Int):=by rw [b2H hpl,hlp];omega
  rw [hw]
  refine H9 ⟨el,ps0,p0,D,rfl,?_,aA,helok,rfl,rfl,hcat,henp⟩ ⟨rfl,rfl,rfl,trivial⟩
  have J:=y
  rw [hcat] at J
  exact J.perm (List.Perm.append_left [_,_,_,_,_] (b3u (TI:=3)).symm)
 rintro _ bK ⟨el2,ps0,pl,K3,rfl,ac,bl,hel2ok,hf2,ht2,hcat2,hps⟩
 refine l4 ?_
 have hpx:p=pl.x:=by rw [hps,hcat2,List.map_append] at ah;simp at ah;exact ah.symm
 have hn30:el2.n=el2.posts.length:=b3K ac m4
 have bm:u0 el2.posts (ps0.length:Int)=some pl:=by rw [hcat2];exact b5X rfl
 obtain⟨gP,hgP⟩:=SH.rowI_at ac m4 hn30 bm
 have hpn:pl.n=pl.at_.length:=b7l ac m5
 have hhead2:=b3I (pre:=pre) (post:=post) (e:=el2) (o:=kk.toNat*3+2) (by rw [hpre])
 have aF:u0 (el2.posts.map V2.x) (ps0.length:Int)=some pl.x:=by rw [hcat2,List.map_append];exact b5X (by simp)
 have hn31:el2.n=(el2.posts.map V2.x).length:=by rw [List.length_map];exact hn30
 have hat:(el2.posts.flatMap V2.cells)[(ps0.length:Int).toNat*2+1]? =some (V3 pl.a pl.n pl.c):=by rw [hcat2];exact b3J (k:=1) (by simp)
 have O:=ac.drew
 refine wh1 (fun w'=>G8 K3 w'∧a8V (some ⟨gE,0,none⟩) ((pre++el2::post).flatMap J1.cells) w'∧A9 f [sv q2.Text,V6 q2.At] w') (fun w'=>a8V el2.a (el2.posts.flatMap V2.cells) w') 19 [(12,16),(16,19)] mixed ⟨O.hasK kr,O.hasRow m3,O.hasObj m0⟩ (fun _=>O.hasRow (.tail _ (.tail _ (.tail _ (.tail _ (.head _)))))) (gt (i5 rfl) (gt (B3 rfl) (gt (c9 Q3 rfl) (gh (fun _ h=>a4g a1W rfl rfl hhead2 rfl h.2.1) (gt (i5 rfl) (gt (i5 rfl) (gt (B3 rfl) (gt (c9 Q3 rfl) (gh (fun _ h=>a4g a1W rfl rfl hhead2 rfl h.2.1) ?_)))))))))
 refine gt (i5 rfl) (gt (a49 (t:=Z0) underlying102 X3 rfl rfl hgP hn31 aF) (gt (c9 a4q rfl) (gf (fun _ h=>a4g a1i rfl rfl hat hgP h) (gt (c9 a3c rfl) (gh (fun _ h=>A8 E4 rfl rfl h.2.2) (gn (lb C9 (V6 q2.At) [V6 q2.At] q2.At underlying51 E4 ⟨rfl,ag⟩ O fun bL bM ad ae aG hS35'=>?_)))))))
 obtain⟨bN,bO,rfl⟩:=c3R aG
 have bn:=c3w aG
 have S:=hS35'.drop
 refine i8 (qh ⟨S.hasK ae,S.hasRow m3,S.hasObj m0⟩ (fun _=>S.hasRow (.tail _ (.tail _ (.tail _ (.tail _ (.head _)))))) (gn ?_))
 unfold J5 at V
 split at V
 case isFalse=>cases V
 rename_i hbd
 cases V
 have hbd2:(pl.n+1)*8≤140737488355328:=by rw [hpx] at hbd;simp [V2.x] at hbd;rw [hpn];exact hbd
 refine a9i wn rfl underlying51 E4 rfl rfl rfl (by decide) rfl bn (by simp [Value.oneCell']) (by rw [List.length_map,hpn,Nat.mul_one]) (by omega) hbd2 S.f5 fun aH c37 bP T=>(i8 (qh ⟨T.hasK ae,T.hasRow m4,T.hasObj m1⟩ (fun _=>T.hasRow (.tail _ (.tail _ (.tail _ (.tail _ (.tail _ (.head _))))))) (gt (a49 (t:=Z0) underlying102 X3 rfl rfl hgP hn31 aF) (gt (c9 a4q rfl) (gn ?_)))))
 obtain⟨fl2,tm2,po2,a2',m2',c2'⟩:=el2
 simp only at hgP hat hcat2 hf2 ht2 hn30
 subst hgP
 refine b5c wn a1i rfl rfl rfl T.f5 (by have:=(i4.1 hat).1;exact this) ?_
 intro ao af
 refine i8 (qh ⟨af.hasK ae,af.hasRow m5,af.hasObj m2⟩ (fun h=>nomatch h) (gd' ?_))
 subst hR
 subst hcat2
 obtain⟨pl2,hpl2⟩: ∃pl2:V2,pl2=⟨pl.doc,pl.at_++[q2.At],some ⟨aH,0,none⟩,pl.n+1,c37⟩:=⟨_,rfl⟩
 obtain⟨el3,hel3⟩: ∃el3:J1,el3=⟨fl2,tm2,ps0++[pl2],some ⟨gP,0,none⟩,m2',c2'⟩:=⟨_,rfl⟩
 have bo:SH w K MM ao ad (J1.row 174 el3::pl2.item 3::u9 f [sv q2.Text,V6 q2.At] 125::u9 i [sv q1] 9::u9 g [V3 A b d,V3 (some ⟨gE,0,none⟩) l m] 30::a1h 104 (some ⟨gE,0,none⟩) l m (pre++el3::post)::(ps0.map (V2.item 3)++((pre).flatMap (J1.items 174 3)++(post).flatMap (J1.items 174 3)))):=by
  have e1:=b7n (ps:=ps0) (p:=pl) (p':=pl2) (o:=(ps0.length:Int).toNat*2+1) (by simp) (by rw [hpl2])
  have e2:pl2.a=some ⟨aH,0,none⟩:=by rw [hpl2]
  have e3:pl2.n=pl.n+1:=by rw [hpl2]
  have e4:pl2.c=c37:=by rw [hpl2]
  have e5:pl2.at_.map b5C=pl.at_.map b5C++[V6 q2.At]:=by rw [hpl2,List.map_append];rfl
  have e6:(pre++el3::post).flatMap J1.cells=(pre++⟨fl2,tm2,ps0++[pl],some ⟨gP,0,none⟩,m2',c2'⟩::post).flatMap J1.cells:=by rw [hel3,List.flatMap_append,List.flatMap_append,List.flatMap_cons,List.flatMap_cons];rfl
  have e7:J1.row 174 el3=W4 (V3 (some ⟨gP,0,none⟩) m2' c2') ((ps0++[pl2]).flatMap V2.cells) 174 2:=by rw [hel3];rfl
  rw [e7,←e1]
  unfold a1h
  rw [e6]
  show SH w K MM ao ad (_::W4 (V3 pl2.a pl2.n pl2.c) (pl2.at_.map b5C) 3 1::_)
  rw [e2,e3,e4,e5]
  exact af
 have br:=bo.sublist (.cons_cons _ (.cons_cons _ (.cons _ (.cons _ (List.Sublist.refl _)))))
 have hpo3:el3.posts=ps0++[pl2]:=by rw [hel3]
 have bs:SH w K MM ao ad (Q0 104 174 3 (some ⟨gE,0,none⟩) l m (pre++el3::post)++[u9 g [V3 A b d,V3 (some ⟨gE,0,none⟩) l m] 30]):=by
  refine br.perm ((List.perm_append_singleton _ _).trans ((List.Perm.cons _ (b40 (TE:=104) (TP:=174) (TI:=3))).trans ?_))
  rw [hpo3]
  exact(List.Perm.append_left [_,_,_] (b3u (TI:=3))).trans (List.Perm.append_right _ (List.perm_append_comm (l₁:=[_,_]) (l₂:=[_,_])))
 have bu:=bs.packUp.perm (List.Perm.swap _ _ _)
 refine b4h (R6 (vs:=[]) results114 trivial ⟨A,b,d,some ⟨gE,0,none⟩,l,m,pre++el3::post,ad,rfl,bu,aK.mono (bl.trans ae),?_,?_⟩)
 ·intro x hx
  rw [hsplit] at hok2
  rcases List.mem_append.1 hx with hx | hx
  ·exact hok2 x (List.mem_append_left _ hx)
  rcases List.mem_cons.1 hx with rfl | hx
  ·rw [hel3,hpl2]
   refine⟨hel2ok.1,hel2ok.2.1,fun q hq=>?_⟩
   rcases List.mem_append.1 hq with hq | hq
   ·exact hel2ok.2.2 q (List.mem_append_left _ hq)
   rcases List.mem_singleton.1 hq with rfl
   have h8:=hel2ok.2.2 pl (List.mem_append_right _ (List.mem_singleton.2 rfl))
   refine⟨h8.1,fun z hz=>?_⟩
   rcases List.mem_append.1 hz with hz | hz
   ·exact h8.2 z hz
   rcases List.mem_singleton.1 hz with rfl
   exact ag
  exact hok2 x (List.mem_append_right _ (List.mem_cons_of_mem _ hx))
 show _=es.set kk.toNat _
 rw [←hes,hsplit,List.map_append,List.map_cons,List.map_append,List.map_cons,List.set_append_right _ _ (by rw [List.length_map,hpre];exact Nat.le_refl _),List.length_map,hpre,Nat.sub_self,List.set_cons_zero]
 have e1:el3.x=B1.mk en.Field en.Term (ps.dropLast++[G7.mk p.Doc (p.At++[q2.At])]):=by
  rw [hel3,hps,hpx,hpl2,←hel]
  simp [J1.x,V2.x,hf2,ht2]
 rw [e1]

theorem a00 {q0:S8}{q1:q9}{r:(List q9)}(hS:SH w K Z w K [u9 g1 [V3 A a b,V3 B c d,V3 C f i,V3 D k l] 160])(aS:b7 D8 K A a b q0.c_.Stops)(aT:b7 L0 K B c d q0.c_.Syns)(aU:b7 F8 K C f i q0.s_.Docs)(O:b7 B8 K D k l q0.s_.Entries)(aV:q1.length≤maxLen)(hm:I0 F q0 q1=some r):
  Calls prog 170 #[.pointer (some ⟨g1,2,none⟩),sv q1] w fun e w'=>∃a_1 n_2 c_3 K',e= .returned (V3 a_1 n_2 c_3)∧SH w K Z w' K' [tail (V3 a_1 n_2 c_3) 9 1,u9 g1 [V3 A a b,V3 B c d,V3 C f i,V3 D k l] 160]∧b7 D8 K' a_1 n_2 c_3 r:=by
 rw [I0] at hm
 refine ci func170 u ntmps170 (sr (lv (r_n u) (nr (b0 D8 underlying23 H3 hS fun af aW V R ag Y=>(av u (P6 (mv u (lv (B3 u) (fl L4 u a0Y m1 Y u ?_)))))))))
 refine lv (q7 underlying28 u (O.mono R)) (lv (r_m u) (nq ?_))
 obtain⟨ah,ai,aj⟩:=ob hm
 refine l6 (fun E' w'=>∃y G H I,E'=[(0,.pointer (some ⟨g1,2,none⟩)),(5,V3 y G H)]∧SH w K Z w' I [u9 g1 [V3 A a b,V3 B c d,V3 C f i,V3 D k l] 160,tail (V3 y G H) 9 1]∧I9 V I∧b7 D8 I y G H ah) ?_ ?_
 ·refine j7 ?_
  obtain⟨aX,ak,am⟩:=ob ai
  refine qF (fun (aa:Nat) (W:(List q9)) E' w'=>∃m o q s,E'=[(0,.pointer (some ⟨g1,2,none⟩)),(1,sv q1),(5,V3 m o q),(12,V3 D k l),(13,V6 (q0.s_.Entries.length:Int)),(14,V6 ((aa:Nat):Int))]∧SH w K Z w' s [u9 g1 [V3 A a b,V3 B c d,V3 C f i,V3 D k l] 160,tail (V3 m o q) 9 1]∧I9 V s∧b7 D8 s m o q W) ak ⟨af,0,0,V,u,Y.f1,kr,ag⟩ ?_ ?_
  ·rintro aa W _ an aY hi51 ao ⟨m,o,q,s,rfl,S,J,T⟩
   refine sr (lv (s7 u u) (ns (C2 u (b8 (by omega)) (j5 (l4 (p9 (j7 (sr ?_))))))))
   obtain⟨x,ap,aq⟩:=ob ao
   refine li underlying28 H6 (O.mono (R.trans J)) ap fun ar au aZ aw ax=>?_
   obtain⟨ab,ac,ad,rfl,ba,ay,bb⟩:=aw
   have az:E9 _ ar au [sv x.Field,sv x.Term,V3 ab ac ad]:=ax
   refine lv (F5 H6 u S az u) (al H6 S fun aA bc aB=>?_)
   have aC:SH _ _ _ _ _ [u9 aA [sv [],sv [],V3 none 0 0] 104,_,_]:=aB
   refine lw [sv x.Field,sv x.Term,V3 ab ac ad] H6 aC fun bd U=>(nr (fl a1Q u H3 m0 U u (mv u (lv (M3 u u) (nq (D4 aq u (fun aD X=>?_) (fun aD X=>?_)))))))
   ·refine j3 (mv u (fl a09 u H3 m0 U u (lb D8 (sv x.Term) [sv x.Term] x.Term underlying23 H3 ⟨u,ay⟩ U fun be bf bg ae aE aF=>?_)))
    obtain⟨bh,aG,aH⟩:=ob X
    refine lp underlying23 H3 (T.mono ae) aE aG aF.f3 fun aI aJ aK bi aL aM aN aO=>(av u (nb (qg (lv (A3 u u (B5 hi51 (b7.max (O.mono R)))) (mv u (i8 ?_))))))
    cases oi aH
    exact qd ⟨aI,aJ,aK,aL,u,aO.f3.s,((J.trans ae).trans aM),aN⟩
   refine j5 (x9 (qg (lv (A3 u u (B5 hi51 (b7.max (O.mono R)))) (mv u (i8 ?_)))))
   cases oi X
   exact qd ⟨m,o,q,s,u,U.s,J,T⟩
  rintro W _ an aP ⟨m,o,q,s,rfl,S,J,T⟩
  subst aP
  refine sr (lv (s7 u u) (ns (C1 u (c6 (by omega)) (w8 (g6 (g6 (l5 ?_)))))))
  cases oi am
  exact qd ⟨m,o,q,s,u,S,J,T⟩
 rintro _ bj ⟨y,G,H,I,rfl,aQ,bk,aR⟩
 refine qr (mv u (av u (nq (l3 ?_))))
 cases oi aj
 exact ey results170 ⟨y,G,H,I,u,aQ.f1,aR⟩

theorem a7c {q0:List q9}{q1:q9}{r:q9}(hS:SH w K [] w K [])(m:b7 D8 K A a b q0)(ak:q1.length≤maxLen)(hm:a0K F q0 q1=some r):
  Calls prog 197 #[V3 A a b,sv q1] w fun e w'=>∃K',e= .returned (sv r)∧SH w K [] w' K' []∧r.length≤maxLen:=by
 rw [a0K] at hm
 refine ci func197 u ntmps197 (sr (lv (r_s u) (nr (lv (r_s u) (P6 (lv (N4 u) (nq ?_)))))))
 obtain⟨o,D,G⟩:=ob hm
 refine l6 (IW w K [] K [(5,sv o)] [] (o.length≤maxLen)) ?_ ?_
 ·refine j7 ?_
  obtain⟨al,H,I⟩:=ob D
  refine qw (fun (c:q9×Int)=>IW w K [] K [(0,V3 A a b),(1,sv q1),(5,sv c.1),(6,V6 c.2)] [] (c.1.length≤maxLen∧i7 c.2)) H ⟨K,u,hS,kr,(by decide :([]:q9).length≤maxLen),M1⟩ ?_
  rintro c _ am an J O ⟨d,rfl,i,f,q,ao⟩
  refine p9 (sr (mv u (mv u (lv (q7 underlying23 u (m.mono f)) (lv (s7 u u) (nq (D4 J u (fun R k=>?_) (fun R k=>?_))))))))
  ·refine j5 (qs (j7 (p9 (sr (mv u (lv (F9 u u) (nq ?_)))))))
   obtain⟨s,S,T⟩:=ob k
   refine l6 (IW w K [] d [(0,V3 A a b),(1,sv q1),(5,sv s),(6,V6 c.2)] [] (s.length≤maxLen)) ?_ ?_
   ·refine D4 S u (fun U l=>?_) (fun U l=>?_)
    ·refine j3 (mv u (mv u ?_))
     obtain⟨ap,x,V⟩:=ob l
     refine lv (b2G u u x) (av u (i8 ?_))
     cases oi V
     exact qd ⟨d,u,i,kr,(b5H x)⟩
    refine j5 ?_
    cases oi l
    exact qd ⟨d,u,i,kr,q⟩
   rintro _ aq ⟨W,rfl,y,B,ar⟩
   refine l4 (j3 (mv u (mv u (mv u ?_))))
   obtain⟨X,Y,aa⟩:=ob T
   refine li underlying23 H3 (m.mono (f.trans B)) Y fun ab ac au ad ae=>?_
   obtain⟨rfl,aw⟩:=ad
   have af:E9 _ ab ac [sv X]:=ae
   refine lv (y7 H3 u y (af 0 _ u)) ?_
   obtain⟨ax,C,ag⟩:=ob aa
   refine lv (b2G u u C) (av u (nb (l4 (j3 (mv u (lv (y4 u u) (av u (i8 ?_))))))))
   cases oi ag
   exact qd ⟨_,u,W,u,y,(f.trans B),(b5H C),(s6 _)⟩
  refine w8 (g6 (g6 ?_))
  cases oi k
  cases O _ u
  refine l5 ?_
  cases oi I
  exact qd ⟨d,u,i,f,q⟩
 rintro _ ay ⟨K9,rfl,ai,az,aj⟩
 refine qr (mv u (av u (nq (l3 ?_))))
 cases oi G
 exact ey results197 ⟨K9,u,ai,aj⟩
end Go.Proofs.YtepcfgnicnibnaaGreatDoor
