/-
 Walks of the functions. Printed by gen.py.
-/
import Derived.Test.YtnloenhmkdpgeaaGreatDoorFacts
set_option linter.unusedVariables false
set_option linter.unusedSectionVars false
set_option maxRecDepth 100000
namespace Go.Proofs.YtnloenhmkdpgeaaGreatDoor
set_option maxHeartbeats 4000000
open Go Go.Fk Go.RowKit Tryz
variable (F:Nat){w:World}{K:F9}{Z:List Nat}{g1 g2 g3:Nat}{A B C D G H I J O R S T:Option Addr}{a b c d f i k l m n o p q s v x y aa ab ac ad ae af ag:Nat}
variable [dr:Dr]

theorem a2k {q0:List UInt8}{r:z7}(hS:SH w K [] w K [])(c:b7 tU8 K A a b q0)(hm:T3 F q0=some r):
  Calls prog 55 #[V3 A a b] w fun e w'=>∃g_1 a_2 n_3 c_4 K',e= .returned (.pointer (some ⟨g_1,0,none⟩))∧SH w K [] w' K' [s7 g_1 [V3 a_2 n_3 c_4,V6 r.p_] 141]∧b7 tU8 K' a_2 n_3 c_4 r.b_∧i7 r.p_:=by
 rw [T3] at hm
 refine ci func55 u ntmps55 (sr (lv (u9 (v:=.pointer none) u) (O7 (mv u (lv (q9 underlying22 u c) (lv (E7 u u) (nq (R9 u (fun d=>?_) (fun d=>?_)))))))))
 ·have f:=a1a d hm
  refine j5 (mv u ?_)
  obtain⟨G,q,s⟩:=ob f
  refine a7z (t:=tU8) wn u underlying22 tf5 u u c q fun i k l x=>(av u (nr (mv u (lv (C3 (cs:=#[V3 i k l,V6 0]) c4k c4o u (by kernel_rfl)) (bx u hS fun m H y=>?_)))))
  have B:SH _ _ _ _ _ [s7 m [V3 i k l,V6 0] 141]:=y
  refine av u (nq (j9 ?_))
  cases oi s
  exact ey results55 ⟨m,i,k,l,K,u,B,x,I5⟩
 have f:=a09 d hm
 refine j3 (qr (mv u (lv (C3 (cs:=#[V3 A a b,V6 0]) c4k c4o u (by kernel_rfl)) (bx u hS fun o I C=>?_))))
 have D:SH _ _ _ _ _ [s7 o [V3 A a b,V6 0] 141]:=C
 refine av u (nq (j9 ?_))
 cases oi f
 exact ey results55 ⟨o,A,a,b,K,u,D,c,I5⟩

theorem A6 {q0:z7}{q1:Int}{r:Int×z7}(hS:SH w K Z w K [s7 g1 [V3 A a b,V6 q0.p_] 141])(c:b7 tU8 K A a b q0.b_)(aF:i7 q0.p_)(aG:i7 q1)(hm:z2 F q0 q1=some r):
  Calls prog 77 #[.pointer (some ⟨g1,0,none⟩),V6 q1] w fun e w'=>∃a_2 n_3 c_4 K',e= .returned (V6 r.1)∧SH w K Z w' K' [s7 g1 [V3 a_2 n_3 c_4,V6 r.2.p_] 141]∧i7 r.1∧b7 tU8 K' a_2 n_3 c_4 r.2.b_∧i7 r.2.p_:=by
 rw [z2] at hm
 refine ci func77 u ntmps77 (sr (lv (N2 u) (nr (mv u (mv u (lv (B7 u) (fl b5H u E6 m0 hS u (lv (y7 u u) (lv (B7 u) ?_)))))))))
 refine fa b5H u (ls [V3 A a b,V6 (z8 (q0.p_+(1:Int)))] (V6 (z8 (q0.p_+(1:Int)))) E6 hS fun w9 k=>(ns (o4 ?_)))
 obtain⟨y,B,C⟩:=ob hm
 refine l4 (IV w K Z K [(0,pt g1),(1,V6 q1),(24,.bool y)] [s7 g1 [V3 A a b,V6 (z8 (q0.p_+(1:Int)))] 141]) ?_ ?_
 ·refine j5 (mv u (lv (u7 u u) (mv u (bt B (fun d l=>?_) (fun d l=>?_)))))
  ·iterate 6 refine lu d ?_
   refine lv (J6 u d u) (i8 ?_)
   cases oi l
   exact qd ⟨K,u,k,kr⟩
  refine lg d (i5 u) (lg d (B7 u) (lg d (c7 a6p u) (lg d (w8 b7Z u m0 k u) (lg d (q9 underlying22 u c) (lg d (A9 u u) (lv (l9 u d u) (i8 ?_)))))))
  cases oi l
  exact qd ⟨K,u,k,kr⟩
 rintro _ aI ⟨q,rfl,i,f⟩
 refine l5 (D5 C u (fun D m=>?_) (fun D m=>?_))
 ·refine sr (lv (N2 u) (nq (rr ?_)))
  cases oi m
  exact ey results77 ⟨A,a,b,q,u,i,I5,(c.mono f),(u0 _)⟩
 refine j3 (qr (mv u (lv (B7 u) (fl b5H u E6 m0 i u (lv (I6 u u) (av u (O7 (mv u (mv u ?_)))))))))
 refine lv (B7 u) (fl a6p u b7Z m0 i u (lv (q9 underlying22 u (c.mono f)) (lv (u7 u u) (nq (D5 m u (fun G o=>?_) (fun G o=>?_))))))
 ·refine sr (mv u (lv (B7 u) (fl a6p u b7Z m0 i u (mv u ?_))))
  obtain⟨H,I,J⟩:=ob o
  refine li underlying22 tf5 (c.mono f) I fun O R aJ S T=>?_
  obtain rfl:=S
  have U:F1 _ O R [iv8 H]:=T
  refine lv (y9 tf5 u i (U 0 _ u)) (lv (b8y underlying5 underlying3 u) (mv u ?_))
  obtain⟨aK,s,V⟩:=ob J
  refine lv (a8J u u s) (av u (nq (rr ?_)))
  cases oi V
  exact ey results77 ⟨A,a,b,q,u,i,(b29 (c46 _) s),(c.mono f),(u0 _)⟩
 refine j3 (qs (D4 mixed (by kernel_rfl) i (km u (kv (B7 u) (kv (c7 a6p u) (kh (z6 b7Z u m0 u) (km u (km u (kv (B7 u) ?_)))))))))
 refine kv (c7 a6p u) (kh (z6 b7Z u m0 u) (kv (q9 underlying22 u (c.mono f)) ?_))
 obtain⟨aL,W,X⟩:=ob o
 refine kv (a8J u u W) ?_
 obtain⟨Y,aa,ab⟩:=ob X
 refine ki underlying22 tf5 (c.mono f) aa fun ac ad aM ae af=>?_
 obtain rfl:=ae
 have ag:F1 _ ac ad [iv8 Y]:=af
 refine kh (C1 tf5 u (ag 0 _ u)) (kv (b8y underlying5 underlying3 u) (kv (U4 u u) (km u (kv (B7 u) (kv (c7 a6p u) (kh (z6 b7Z u m0 u) (km u (kv (U4 u u) (kv (y7 u u) ?_)))))))))
 refine km u (kv (B7 u) (kv (c7 a6p u) (kh (z6 b7Z u m0 u) (kv (q9 underlying22 u (c.mono f)) ?_))))
 obtain⟨aN,ah,ai⟩:=ob ab
 refine kv (a8J u u ah) ?_
 obtain⟨aj,ak,al⟩:=ob ai
 refine ki underlying22 tf5 (c.mono f) ak fun am an aO ao ap=>?_
 obtain rfl:=ao
 have aq:F1 _ am an [iv8 aj]:=ap
 refine kh (C1 tf5 u (aq 0 _ u)) (kv (b8y underlying5 underlying3 u) (kv (U4 u u) (kv (y7 u u) (km u (kv (U4 u u) (kv (y7 u u) (km u (km u (kv (B7 u) ?_)))))))))
 refine kv (c7 a6p u) (kh (z6 b7Z u m0 u) (kv (q9 underlying22 u (c.mono f)) ?_))
 obtain⟨aP,ar,au⟩:=ob al
 refine kv (a4D u u ar) (kv (U4 u u) (kv (y7 u u) ?_))
 obtain⟨aQ,aw,ax⟩:=ob au
 have ay:=oi aw
 refine kv (b9v u (congrArg (Value.int .i64) ay)) (B4 ?_)
 rintro aR ⟨az,aA,aB⟩
 refine qr (mv u (mv u ?_))
 obtain⟨aS,aC,aD⟩:=ob ax
 refine lv (a4D u u aC) (lv (c5e u u) (av u (nr (mv u (mv u ?_)))))
 obtain⟨aT,x,aE⟩:=ob aD
 refine lv (a8J u u x) (av u (nq (j9 ?_)))
 cases oi aE
 exact ey results77 ⟨A,a,b,az,u,aA,(b29 (u0 _) x),(c.mono (f.trans aB)),(u0 _)⟩

theorem a9F {q0:List r4}{q1:r4}{r:(List r4)}(hS:SH w K Z w K [tail (V3 A a b) 9 1])(f:b7 D9 K A a b q0)(T:q1.length≤maxLen)(hm:a0O F q0 q1=some r):
  Calls prog 198 #[V3 A a b,sv q1] w fun e w'=>∃a_1 n_2 c_3 K',e= .returned (V3 a_1 n_2 c_3)∧SH w K Z w' K' [tail (V3 a_1 n_2 c_3) 9 1]∧b7 D9 K' a_1 n_2 c_3 r:=by
 rw [a0O] at hm
 refine ci func198 u ntmps198 (sr (lv (r_n u) (nr (lv (N2 u) (ns ?_)))))
 obtain⟨m,U,V⟩:=ob hm
 refine l4 (IW w K Z K [(0,V3 A a b),(1,sv q1),(5,V6 m)] [tail (V3 A a b) 9 1] (i7 m)) ?_ ?_
 ·refine j7 ?_
  obtain⟨bg,W,X⟩:=ob U
  refine qw (fun (k:Int)=>IW w K Z K [(0,V3 A a b),(1,sv q1),(5,V6 k)] [tail (V3 A a b) 9 1] (i7 k)) W ⟨K,u,hS,kr,I5⟩ ?_
  rintro k _ bh bi Y aa ⟨o,rfl,q,l,ab⟩
  refine o4 (o4 ?_)
  obtain⟨ac,ad,ae⟩:=ob Y
  refine l4 (IV w K Z o [(0,V3 A a b),(1,sv q1),(5,V6 k),(18,.bool ac)] [tail (V3 A a b) 9 1]) ?_ ?_
  ·refine j5 (mv u (mv u (lv (q9 underlying23 u (f.mono l)) (lv (u7 u u) (mv u (bt ad (fun c s=>?_) (fun c s=>?_)))))))
   ·refine lg c (i5 u) (lg c (i5 u) ?_)
    obtain⟨af,ag,ah⟩:=ob s
    refine N1 (t:=D9) (wg u u c) u underlying23 G7 u u (f.mono l) ag fun ai aj bj ak al=>?_
    obtain⟨rfl,bk⟩:=ak
    have am:F1 _ ai aj [sv af]:=al
    refine lg c (y9 G7 u q (am 0 _ u)) (lg c (i5 u) (lg c (b9A u u) (lv (n9 u c u) (i8 ?_))))
    cases oi ah
    exact qd ⟨o,u,q,kr⟩
   iterate 6 refine lu c ?_
   refine lv (L8 u c u) (i8 ?_)
   cases oi s
   exact qd ⟨o,u,q,kr⟩
  rintro _ bl ⟨H,rfl,I,J⟩
  refine l5 (D5 ae u (fun an x=>?_) (fun an x=>?_))
  ·refine j3 (l5 (j7 (j5 (mv u (lv (y7 u u) (av u (nb ?_)))))))
   cases oi x
   exact qd ⟨_,u,H,u,I,(l.trans J),(u0 _)⟩
  refine y4 (g8 (g8 ?_))
  cases oi x
  cases aa _ u
  refine l6 ?_
  cases oi X
  exact qd ⟨H,u,I,(l.trans J),ab⟩
 rintro _ bm ⟨y,rfl,B,i,bn⟩
 refine qs (o4 ?_)
 obtain⟨ao,ap,aq⟩:=ob V
 refine l4 (IV w K Z y [(0,V3 A a b),(1,sv q1),(5,V6 m),(32,.bool ao)] [tail (V3 A a b) 9 1]) ?_ ?_
 ·refine j5 (mv u (mv u (lv (q9 underlying23 u (f.mono i)) (lv (u7 u u) (mv u (bt ap (fun d C=>?_) (fun d C=>?_)))))))
  ·refine lg d (i5 u) (lg d (i5 u) ?_)
   obtain⟨ar,au,aw⟩:=ob C
   refine N1 (t:=D9) (wg u u d) u underlying23 G7 u u (f.mono i) au fun ax ay bo az aA=>?_
   obtain⟨rfl,bp⟩:=az
   have aB:F1 _ ax ay [sv ar]:=aA
   refine lg d (y9 G7 u B (aB 0 _ u)) (lg d (i5 u) (lg d (J8 u u) (lv (n9 u d u) (i8 ?_))))
   cases oi aw
   exact qd ⟨y,u,B,kr⟩
  iterate 6 refine lu d ?_
  refine lv (L8 u d u) (i8 ?_)
  cases oi C
  exact qd ⟨y,u,B,kr⟩
 rintro _ bq ⟨aC,rfl,O,D⟩
 refine l5 (D5 aq u (fun aD G=>?_) (fun aD G=>?_))
 ·refine sr (mv u (av u (nq (rr ?_))))
  cases oi G
  exact ey results198 ⟨A,a,b,aC,u,O,(f.mono (i.trans D))⟩
 refine j3 (qr (b0 D9 underlying23 G7 O fun br bs bu R aE aF=>(mv u (mv u ?_))))
 obtain⟨bv,aG,aH⟩:=ob G
 refine a7z (t:=D9) wn u underlying23 G7 u u (f.mono ((i.trans D).trans R)) aG fun bx bz bA aI=>?_
 obtain⟨bB,aJ,aK⟩:=ob aH
 refine lp underlying23 G7 aE aI aJ aF fun bC bD bE bF bG aL aM aN=>(av u (nr (mv u (mv u (lb D9 (sv q1) [sv q1] q1 underlying23 G7 ⟨u,T⟩ aN fun bH bI bJ S aO aP=>?_)))))
 obtain⟨bK,aQ,aR⟩:=ob aK
 refine lp underlying23 G7 (aM.mono S) aO aQ aP.f1 fun bL bM bN bO bP aS aT aU=>(av u (nr (mv u (mv u (mv u ?_)))))
 obtain⟨bQ,aV,aW⟩:=ob aR
 refine a9h (t:=D9) wn u underlying23 G7 u u (b7.mono (((((i.trans D).trans R).trans aL).trans S).trans aS) f) aV fun bR bS bT aX=>?_
 obtain⟨bU,aY,aZ⟩:=ob aW
 refine lp underlying23 G7 aT aX aY aU fun ba bb bc bV bd bW be bf=>(av u (nq (j9 ?_)))
 cases oi aZ
 exact ey results198 ⟨ba,bb,bc,bd,u,bf.s,be⟩

theorem b2Q {q0:List A1}{r:(List r4)}(hS:SH w K [] w K [])(S:b7 F6 K A a b q0)(hm:a2W F q0=some r):
  Calls prog 160 #[V3 A a b] w fun e w'=>∃a_1 n_2 c_3 K',e= .returned (V3 a_1 n_2 c_3)∧SH w K [] w' K' [tail (V3 a_1 n_2 c_3) 9 1]∧b7 D9 K' a_1 n_2 c_3 r:=by
 rw [a2W] at hm
 refine ci func160 u ntmps160 (sr (lv (r_n u) (nr (b0 D9 underlying23 G7 hS fun a5 w6 T U ae af=>(av u (O7 (lv (N2 u) (nq ?_))))))))
 obtain⟨ag,ah,ai⟩:=ob hm
 refine l4 (fun E' w'=>∃m o q s,E'=[(3,V3 m o q)]∧SH w K [] w' s [tail (V3 m o q) 9 1]∧M0 T s∧b7 D9 s m o q ag) ?_ ?_
 ·refine j7 ?_
  obtain⟨bC,aj,ak⟩:=ob ah
  refine qw (fun (d:(List r4)×Int) E' w'=>∃f i k c,E'=[(0,V3 A a b),(3,V3 f i k),(4,V6 d.2)]∧SH w K [] w' c [tail (V3 f i k) 9 1]∧M0 T c∧b7 D9 c f i k d.1∧i7 d.2) aj ⟨a5,0,0,T,u,af,kr,ae,I5⟩ ?_
  rintro d _ bD bE al am ⟨f,i,k,c,rfl,X,x,Y,bF⟩
  refine o4 (sr (mv u (mv u (lv (q9 underlying27 u (S.mono (U.trans x))) (lv (u7 u u) (nq (D5 al u (fun an V=>?_) (fun an V=>?_))))))))
  ·refine j3 (qs (j7 (sr (lv (N2 u) (nq ?_)))))
   obtain⟨ao,ap,aq⟩:=ob V
   refine l4 (fun E' w'=>∃y B C D,E'=[(0,V3 A a b),(3,V3 y B C),(4,V6 d.2)]∧SH w K [] w' D [tail (V3 y B C) 9 1]∧M0 c D∧b7 D9 D y B C ao) ?_ ?_
   ·refine j7 ?_
    obtain⟨bG,ar,au⟩:=ob ap
    refine qw (fun (O:(List r4)×Int) E' w'=>∃G H I J,E'=[(0,V3 A a b),(3,V3 G H I),(4,V6 d.2),(5,V6 O.2)]∧SH w K [] w' J [tail (V3 G H I) 9 1]∧M0 c J∧b7 D9 J G H I O.1∧i7 O.2) ar ⟨f,i,k,c,u,X,kr,Y,I5⟩ ?_
    rintro O _ bH bI aw ax ⟨G,H,I,J,rfl,l,R,aa,bJ⟩
    refine o4 (sr (mv u (mv u (mv u ?_))))
    obtain⟨ay,az,aA⟩:=ob aw
    refine li underlying27 E8 (S.mono ((U.trans x).trans R)) az fun aB aC bK aD aE=>?_
    obtain⟨aF,aG,aH,aI,aJ,aK,rfl,bL,aL,bM⟩:=aD
    have aM:F1 _ aB aC [V6 ay.Id,V3 aF aG aH,V3 aI aJ aK]:=aE
    refine fa a1x u (lv (y9 a7g u l (aM 1 _ u)) (lv (q9 underlying41 u aL) (lv (u7 u u) (nq (D5 aA u (fun aN W=>?_) (fun aN W=>?_))))))
    ·refine j3 (qs (j7 (j5 (mv u (mv u (mv u ?_))))))
     obtain⟨aO,aP,aQ⟩:=ob W
     refine li underlying27 E8 (S.mono ((U.trans x).trans R)) aP fun aR aS bN aT aU=>?_
     obtain⟨aV,aW,aX,aY,aZ,ba,rfl,bO,bb,bP⟩:=aT
     have bc:F1 _ aR aS [V6 aO.Id,V3 aV aW aX,V3 aY aZ ba]:=aU
     refine fa a1x u (lv (y9 a7g u l (bc 1 _ u)) (mv u ?_))
     obtain⟨ab,bd,be⟩:=ob aQ
     refine li underlying41 U6 bb bd fun bf bg bQ bh bi=>?_
     obtain⟨rfl,bj,bR⟩:=bh
     have bk:F1 _ bf bg [sv ab.Name,sv ab.Text]:=bi
     refine fa a5a u (lv (y9 G7 u l (bk 0 _ u)) ?_)
     obtain⟨bS,bl,bm⟩:=ob be
     refine lk c30 (a9F F l.e1 aa bj bl) ?_
     rintro bT bU ⟨bn,bo,bp,bq,rfl,ac,br⟩
     have bs:=(l.c1 ac).t1
     refine av u (nb (l5 (j5 (mv u (lv (y7 u u) (av u (i8 ?_)))))))
     cases oi bm
     exact qd ⟨_,u,bn,bo,bp,bq,u,bs,(R.trans ac.le),br,(u0 _)⟩
    refine y4 (g8 (g8 ?_))
    cases oi W
    cases ax _ u
    refine l6 ?_
    cases oi au
    exact qd ⟨G,H,I,J,u,l,R,aa⟩
   rintro _ bV ⟨y,B,C,D,rfl,bu,bv,bx⟩
   refine x8 (l5 (j5 (mv u (lv (y7 u u) (av u (i8 ?_))))))
   cases oi aq
   exact qd ⟨_,u,y,B,C,D,u,bu,(x.trans bv),bx,(u0 _)⟩
  refine y4 (g8 (g8 ?_))
  cases oi V
  cases am _ u
  refine l6 ?_
  cases oi ak
  exact qd ⟨f,i,k,c,u,X,x,Y⟩
 rintro _ bW ⟨m,o,q,s,rfl,bz,bX,bA⟩
 refine qr (mv u (av u (nq (j9 ?_))))
 cases oi ai
 exact ey results160 ⟨m,o,q,s,u,bz,bA⟩

theorem a7N {q0:A1}{q1:r4}{r:r4}(hS:SH w K [] w K [])(an:i7 q0.Id)(l:b7 K5 K A a b q0.Fields)(ao:b7 N0 K B c d q0.Nums)(ap:q1.length≤maxLen)(hm:a1s F q0 q1=some r):
  Calls prog 199 #[.agg #[V6 q0.Id,V3 A a b,V3 B c d],sv q1] w fun e w'=>∃K',e= .returned (sv r)∧SH w K [] w' K' []∧r.length≤maxLen:=by
 rw [a1s] at hm
 refine ci func199 u ntmps199 (sr (bx u hS fun m aq H=>?_))
 have I:SH _ _ _ _ _ [s7 m [V6 q0.Id,V3 A a b,V3 B c d] 44]:=H
 refine lv (r_s u) (O7 (lv (N2 u) (nq ?_)))
 obtain⟨J,O,k⟩:=ob hm
 refine l4 (IE J w K [] K [] []) ?_ ?_
 ·refine j7 ?_
  obtain⟨ar,R,y⟩:=ob O
  refine qw (fun (o:Int)=>IW w K [] K [(1,sv q1),(2,pt m),(5,V6 o)] [s7 m [V6 q0.Id,V3 A a b,V3 B c d] 44] (i7 o)) R ⟨K,u,I,kr,I5⟩ ?_
  rintro o _ au aw S C ⟨q,rfl,f,i,ax⟩
  refine o4 (sr (mv u (fl a1x u a7g m0 f u (lv (q9 underlying41 u (l.mono i)) (lv (u7 u u) (nq (D5 S u (fun T s=>?_) (fun T s=>?_))))))))
  ·refine j3 (qs (j7 (sr (fl a1x u a7g m0 f u (mv u ?_)))))
   obtain⟨D,U,V⟩:=ob s
   refine li underlying41 U6 (l.mono i) U fun W X ay Y aa=>?_
   obtain⟨rfl,az,aA⟩:=Y
   have ab:F1 _ W X [sv D.Name,sv D.Text]:=aa
   refine fa a5a u (lv (y9 G7 u f (ab 0 _ u)) (mv u (lv (J8 u u) (nq (D5 V u (fun ac x=>?_) (fun ac x=>?_))))))
   ·refine sr (fl a1x u a7g m0 f u (mv u ?_))
    obtain⟨G,ad,ae⟩:=ob x
    refine li underlying41 U6 (l.mono i) ad fun af ag aB ah ai=>?_
    obtain⟨rfl,aC,aj⟩:=ah
    have ak:F1 _ af ag [sv G.Name,sv G.Text]:=ai
    refine fa b0n u (lv (y9 G7 u f (ak 1 _ u)) (av u (nq (j9 (i9 (c9 (c9 ?_)))))))
    cases oi ae
    cases C _ u
    refine i9 (c9 ?_)
    cases oi y
    refine c9 ?_
    cases oi k
    exact ey results199 ⟨q,u,f.s,aj⟩
   refine j3 (x8 (l5 (j5 (mv u (lv (y7 u u) (av u (i8 ?_)))))))
   cases oi x
   exact qd ⟨_,u,q,u,f,i,(u0 _)⟩
  refine y4 (g8 (g8 ?_))
  cases oi s
  cases C _ u
  refine l6 ?_
  cases oi y
  exact L6 ⟨_,q,u,u,f.s,i⟩ trivial
 rintro _ aD ⟨aE,al,rfl,rfl,am,aF⟩
 have k:=E9 k
 refine qr (lv (r_s u) (nq (j9 ?_)))
 cases oi k
 exact ey results199 ⟨al,u,am,(by decide :([]:r4).length≤maxLen)⟩

theorem b0O {q0:A1}{r:A1}(hS:SH w K [] w K [])(G:i7 q0.Id)(H:b7 K5 K A a b q0.Fields)(I:b7 N0 K B c d q0.Nums)(hm:a3l F q0=some r):
  Calls prog 163 #[.agg #[V6 q0.Id,V3 A a b,V3 B c d]] w fun e w'=>∃a_2 n_3 c_4 a_6 n_7 c_8 K',e= .returned (.agg #[V6 r.Id,V3 a_2 n_3 c_4,V3 a_6 n_7 c_8])∧SH w K [] w' K' [tail (V3 a_2 n_3 c_4) 148 2,tail (V3 a_6 n_7 c_8) 137 2]∧i7 r.Id∧b7 K5 K' a_2 n_3 c_4 r.Fields∧b7 N0 K' a_6 n_7 c_8 r.Nums:=by
 rw [a3l] at hm
 refine ci func163 u ntmps163 (sr (bx u hS fun aC aX aE=>?_))
 have aF:SH _ _ _ _ _ [s7 aC [V6 q0.Id,V3 A a b,V3 B c d] 44]:=aE
 refine al E8 aF fun aG aY aH=>?_
 have aI:SH _ _ _ _ _ [s7 aG [V6 0,V3 none 0 0,V3 none 0 0] 44,_]:=aH
 refine ns ?_
 obtain⟨aZ,J,aJ⟩:=ob hm
 obtain⟨ba,O,R⟩:=ob aJ
 have v:=aI.drew
 refine j_0 (fun w'=>H0 K w'∧B0 aC [V6 q0.Id,V3 A a b,V3 B c d] w') 12 [] mixed ⟨v.hasK kr,v.hasObj m1⟩ (jv 0 u (c7 P6 u) (jh 1 u (fun _ h=>B5 E6 u u h.2) (jv 3 u (c7 a1x u) (jh 4 u (fun _ h=>B5 a7g u u h.2) (jv 7 u (c7 a1S u) (jh 8 u (fun _ h=>B5 a7y u u h.2) (j2 2 6 u u ?_ ?_)))))))
 ·refine b0 K5 underlying41 U6 v fun bb bc bd f aD x=>(P0 ⟨x.hasK f,x.hasObj m2⟩ (j2 5 6 u u ?_ ?_))
  ·refine lp underlying41 U6 aD (H.mono f) J x fun S T U be bf m aK V=>(P0 ⟨V.hasK (f.trans m),V.hasObj m2⟩ (j1 6 u (b0 N0 underlying42 Y9 V fun bg bh bi o aL W=>(P0 ⟨W.hasK ((f.trans m).trans o),W.hasObj m3⟩ (j1 9 u (lp underlying42 Y9 aL (I.mono ((f.trans m).trans o)) O W fun X Y aa bj aM ab aN ac=>(P0 ⟨ac.hasK (((f.trans m).trans o).trans ab),ac.hasObj m3⟩ (jv 10 u (C3 (cs:=#[V6 q0.Id,V3 S T U,V3 X Y aa]) b4M E8 u (by kernel_rfl)) (j1 11 u ?_)))))))))
   refine lw [V6 q0.Id,V3 S T U,V3 X Y aa] E8 ac.f2 fun bk y=>(P0 ⟨y.hasK (((f.trans m).trans o).trans ab),y.hasObj m3⟩ (jd (l5 (j9 ?_))))
   cases oi R
   exact ez results163 E8 y m0 ⟨S,T,U,X,Y,aa,aM,u,y.f1.f2.s,G,(aK.mono (o.trans ab)),aN⟩
  refine b0 N0 underlying42 Y9 x fun bl bm bn i aO ad=>(P0 ⟨ad.hasK (f.trans i),ad.hasObj m3⟩ (j1 5 u (lp underlying41 U6 (aD.mono i) (H.mono (f.trans i)) J ad.f1 fun ae af ag bo bp q aP ah=>(P0 ⟨ah.hasK ((f.trans i).trans q),ah.hasObj m3⟩ (j1 9 u (lp underlying42 Y9 (aO.mono q) (I.mono ((f.trans i).trans q)) O ah.f1 fun ai aj ak bq aQ am aR an=>(P0 ⟨an.hasK (((f.trans i).trans q).trans am),an.hasObj m3⟩ (jv 10 u (C3 (cs:=#[V6 q0.Id,V3 ae af ag,V3 ai aj ak]) b4M E8 u (by kernel_rfl)) (j1 11 u ?_)))))))))
  refine lw [V6 q0.Id,V3 ae af ag,V3 ai aj ak] E8 an.f2 fun br C=>(P0 ⟨C.hasK (((f.trans i).trans q).trans am),C.hasObj m3⟩ (jd (l5 (j9 ?_))))
  cases oi R
  exact ez results163 E8 C m0 ⟨ae,af,ag,ai,aj,ak,aQ,u,C.f1.f2.s,G,(aP.mono am),aR⟩
 refine b0 N0 underlying42 Y9 v fun bs bu bv k aS ao=>(P0 ⟨ao.hasK k,ao.hasObj m2⟩ (j1 2 u (b0 K5 underlying41 U6 ao fun bz bA bB l aT ap=>(P0 ⟨ap.hasK (k.trans l),ap.hasObj m3⟩ (j1 5 u (lp underlying41 U6 aT (H.mono (k.trans l)) J ap fun aq ar au bC bD s aU aw=>(P0 ⟨aw.hasK ((k.trans l).trans s),aw.hasObj m3⟩ (j1 9 u (lp underlying42 Y9 (aS.mono (l.trans s)) (I.mono ((k.trans l).trans s)) O aw.f1 fun ax ay az bE aV aA aW aB=>?_)))))))))
 refine P0 ⟨aB.hasK (((k.trans l).trans s).trans aA),aB.hasObj m3⟩ (jv 10 u (C3 (cs:=#[V6 q0.Id,V3 aq ar au,V3 ax ay az]) b4M E8 u (by kernel_rfl)) (j1 11 u (lw [V6 q0.Id,V3 aq ar au,V3 ax ay az] E8 aB.f2 fun bF D=>(P0 ⟨D.hasK (((k.trans l).trans s).trans aA),D.hasObj m3⟩ (jd (l5 (j9 ?_)))))))
 cases oi R
 exact ez results163 E8 D m0 ⟨aq,ar,au,ax,ay,az,aV,u,D.f1.f2.s,G,(aU.mono aA),aW⟩

theorem b2M {q0:z7}{r:u6×z7}(hS:SH w K Z w K [s7 g1 [V3 A a b,V6 q0.p_] 141])(aI:b7 tU8 K A a b q0.b_)(aJ:i7 q0.p_)(hm:a2S F q0=some r):
  Calls prog 148 #[.pointer (some ⟨g1,0,none⟩)] w fun e w'=>∃a_1 n_2 c_3 a_5 n_6 c_7 a_9 n_10 c_11 K',e= .returned (.agg #[V3 a_1 n_2 c_3,V3 a_5 n_6 c_7])∧SH w K Z w' K' [tail (V3 a_1 n_2 c_3) 9 1,tail (V3 a_5 n_6 c_7) 144 2,s7 g1 [V3 a_9 n_10 c_11,V6 r.2.p_] 141]∧b7 D9 K' a_1 n_2 c_3 r.1.Stops∧b7 L0 K' a_5 n_6 c_7 r.1.Syns∧b7 tU8 K' a_9 n_10 c_11 r.2.b_∧i7 r.2.p_:=by
 rw [a2S] at hm
 refine ci func148 rfl ntmps148 (sr (al B9 hS fun s w9 aK=>?_))
 have aL:SH _ _ _ _ _ [s7 s [V3 none 0 0,V3 none 0 0] 26,_]:=aK
 refine nr (lv (C3 (cs:=#[V3 none 0 0,V3 none 0 0]) c7e B9 rfl (by kernel_rfl)) (al B9 aL fun v bZ aM=>?_))
 have aN:SH _ _ _ _ _ [s7 v [V3 none 0 0,V3 none 0 0] 26,_,_]:=aM
 refine lw [V3 none 0 0,V3 none 0 0] B9 aN fun ca aO=>(O7 (mv rfl ?_))
 obtain⟨aP,aQ,aR⟩:=ob hm
 have ak:=aO.f2
 refine lk a4r (A6 F ak.e1 aI aJ (by decide :i7 3) aQ) ?_
 rintro cb cc ⟨aS,aT,aU,am,rfl,aV,cd,aW,aX⟩
 have an:=(ak.c1 aV).t3
 refine lv (E7 rfl rfl) (nq ?_)
 obtain⟨ao,aY,aZ⟩:=ob aR
 refine l4 (fun E' w'=>∃x y B i k l C,E'=[(0,pt g1),(2,pt s),(3,pt v)]∧SH w K Z w' C [s7 g1 [V3 aS aT aU,V6 aP.2.p_] 141,s7 s [V3 none 0 0,V3 none 0 0] 26,s7 v [V3 x y B,V3 i k l] 26,tail (V3 x y B) 9 1,tail (V3 i k l) 144 2]∧M0 am C∧b7 D9 C x y B ao.Stops∧b7 L0 C i k l ao.Syns) ?_ ?_
 ·refine D5 aY rfl (fun ba W=>?_) (fun ba W=>?_)
  ·refine j5 (lb D9 (sv [116,104,101]) [sv [116,104,101]] ([116,104,101]:r4) underlying23 G7 ⟨rfl,(by decide :([116,104,101]:r4).length≤maxLen)⟩ an fun X ce bb bc bd be=>(fa a34 rfl (ls [V3 X 1 1,V3 none 0 0] (V3 X 1 1) W1 be.f2 fun cf bf=>(i8 ?_))))
   cases oi W
   have bg:=bf.nil 144 2
   exact qd ⟨X,1,1,none,0,0,bb,rfl,bg.f2.f2.f4.f4,bc,bd,(b7.nil _ _)⟩
  refine j3 ?_
  cases oi W
  have bh:=an.nil 9 1
  have bi:=bh.nil 144 2
  exact qd ⟨none,0,0,none,0,0,am,rfl,bi.f1.f3.f4.f4,kr,(b7.nil _ _),(b7.nil _ _)⟩
 rintro _ cg ⟨x,y,B,i,k,l,C,rfl,ap,bj,bk,aq⟩
 refine qs (sr (mv rfl ?_))
 obtain⟨bl,bm,bn⟩:=ob aZ
 refine lk a4r (A6 F ap.e1 (aW.mono bj) aX (by decide :i7 4) bm) ?_
 rintro ch cj ⟨bo,bp,bq,ar,rfl,S,ck,br,bs⟩
 have au:=(ap.c1 S).t5
 refine lv (A9 rfl rfl) (nq ?_)
 obtain⟨aw,bu,bv⟩:=ob bn
 refine l4 (fun E' w'=>∃c d f m o q D,E'=[(0,pt g1),(2,pt s),(3,pt v)]∧SH w K Z w' D [s7 g1 [V3 bo bp bq,V6 bl.2.p_] 141,s7 s [V3 none 0 0,V3 none 0 0] 26,s7 v [V3 c d f,V3 m o q] 26,tail (V3 c d f) 9 1,tail (V3 m o q) 144 2]∧M0 ar D∧b7 D9 D c d f aw.Stops∧b7 L0 D m o q aw.Syns) ?_ ?_
 ·refine D5 bu rfl (fun bx Y=>?_) (fun bx Y=>?_)
  ·refine j5 (bw [[100,111,103],[116,104,101]] underlying23 G7 au fun aa cl bz ax bA bB=>(fa a34 rfl (ls [V3 aa 2 2,V3 i k l] (V3 aa 2 2) W1 bB.f3 fun cm bC=>(i8 ?_))))
   cases oi Y
   exact qd ⟨aa,2,2,i,k,l,bz,rfl,bC.f5.f2.f2.f4.f4.s,ax,bA,(aq.mono (S.le.trans ax))⟩
  refine j3 ?_
  cases oi Y
  exact qd ⟨x,y,B,i,k,l,ar,rfl,au,kr,(bk.mono S.le),(aq.mono S.le)⟩
 rintro _ cn ⟨c,d,f,m,o,q,D,rfl,ay,bD,ab,bE⟩
 refine qs (sr (mv rfl ?_))
 obtain⟨cp,bF,bG⟩:=ob bv
 refine lk a4r (A6 F ay.e1 (br.mono bD) bs (by decide :i7 4) bF) ?_
 rintro cq cr ⟨ac,ad,ae,bH,rfl,G,ct,af,ag⟩
 have T:=(ay.c1 G).t5
 refine nq (j7 (sr (lv (A9 rfl rfl) (av rfl (nq (D5 bG rfl (fun bI ah=>?_) (fun bI ah=>?_)))))))
 ·refine j5 (bw [[110,101,119],[121,111,114,107]] underlying23 G7 T fun U cu cv az bJ bK=>(lv (C3 (cs:=#[V3 U 2 2,sv [110,121]]) b9F a4h rfl (by kernel_rfl)) (lb L0 (.agg #[V3 U 2 2,sv [110,121]]) [V3 U 2 2,sv [110,121]] (Z0.mk ([([110,101,119]:r4),([121,111,114,107]:r4)]:List r4) ([110,121]:r4)) underlying24 a4h ⟨U,2,2,rfl,bJ,(by decide :([110,121]:r4).length≤maxLen)⟩ bK fun H cw bL aA bM bN=>(fa a3y rfl (ls [V3 c d f,V3 H 1 1] (V3 H 1 1) a9v bN.f4 fun cx aB=>(nb (qr (lv (j6 (ds:=[V3 c d f,V3 H 1 1]) B9 rfl m0 aB rfl rfl) (lw [V3 c d f,V3 H 1 1] B9 aB.f4 fun cy aC=>?_)))))))))
  refine nq (j9 ?_)
  cases oi ah
  exact ez results148 B9 aC m0 ⟨c,d,f,H,1,1,ac,ad,ae,bL,rfl,aC.f4.f3.f5.s,(ab.mono ((G.le.trans az).trans aA)),bM,(af.mono (az.trans aA)),ag⟩
 refine sr (lv (A9 rfl rfl) (av rfl (nq (D5 ah rfl (fun bO ai=>?_) (fun bO ai=>?_)))))
 ·refine j5 (lb D9 (sv [98,105,103]) [sv [98,105,103]] ([98,105,103]:r4) underlying23 G7 ⟨rfl,(by decide :([98,105,103]:r4).length≤maxLen)⟩ T fun I cz cA aD bP bQ=>(lv (C3 (cs:=#[V3 I 1 1,sv [108,97,114,103]]) b9F a4h rfl (by kernel_rfl)) (bw [[98,105,103],[114,101,100],[102,111,120]] underlying23 G7 bQ fun J cB cC aj bR bS=>(lv (C3 (cs:=#[V3 J 3 3,sv [102,111,120]]) b9F a4h rfl (by kernel_rfl)) (bw [[110,101,119],[121,111,114,107]] underlying23 G7 bS fun O cD cE V bT bU=>(lv (C3 (cs:=#[V3 O 2 2,sv [110,121]]) b9F a4h rfl (by kernel_rfl)) ?_))))))
  refine J2 (t:=L0) (n:=3) (pv:=[(0,.agg #[V3 I 1 1,sv [108,97,114,103]]),(1,.agg #[V3 J 3 3,sv [102,111,120]]),(2,.agg #[V3 O 2 2,sv [110,121]])]) (cs:=[V3 I 1 1,sv [108,97,114,103],V3 J 3 3,sv [102,111,120],V3 O 2 2,sv [110,121]]) (xs:=[(Z0.mk ([([98,105,103]:r4)]:List r4) ([108,97,114,103]:r4)),(Z0.mk ([([98,105,103]:r4),([114,101,100]:r4),([102,111,120]:r4)]:List r4) ([102,111,120]:r4)),(Z0.mk ([([110,101,119]:r4),([121,111,114,107]:r4)]:List r4) ([110,121]:r4))]) wn rfl underlying24 a4h rfl rfl rfl (by kernel_rfl) rfl rfl (H5 (u:=.agg #[V3 I 1 1,sv [108,97,114,103]]) (z:=(Z0.mk ([([98,105,103]:r4)]:List r4) ([108,97,114,103]:r4))) ⟨I,1,1,rfl,(bP.mono (aj.trans V)),(by decide :([108,97,114,103]:r4).length≤maxLen)⟩ (H5 (u:=.agg #[V3 J 3 3,sv [102,111,120]]) (z:=(Z0.mk ([([98,105,103]:r4),([114,101,100]:r4),([102,111,120]:r4)]:List r4) ([102,111,120]:r4))) ⟨J,3,3,rfl,(bR.mono V),(by decide :([102,111,120]:r4).length≤maxLen)⟩ (H5 (u:=.agg #[V3 O 2 2,sv [110,121]]) (z:=(Z0.mk ([([110,101,119]:r4),([121,111,114,107]:r4)]:List r4) ([110,121]:r4))) ⟨O,2,2,rfl,bT,(by decide :([110,121]:r4).length≤maxLen)⟩ a1W))) bU ?_
  intro R cF bV aE bW bX
  refine fa a3y rfl (ls [V3 c d f,V3 R 3 3] (V3 R 3 3) a9v bX.f6 fun cG aF=>(nb (qr (lv (j6 (ds:=[V3 c d f,V3 R 3 3]) B9 rfl m0 aF rfl rfl) (lw [V3 c d f,V3 R 3 3] B9 aF.f6 fun cH aG=>(nq (j9 ?_)))))))
  cases oi ai
  exact ez results148 B9 aG m0 ⟨c,d,f,R,3,3,ac,ad,ae,bV,rfl,aG.f6.f3.f7.s,(b7.mono ((((G.le.trans aD).trans aj).trans V).trans aE) ab),bW,(b7.mono (((aD.trans aj).trans V).trans aE) af),ag⟩
 refine j3 (x8 (qr (lv (j6 (ds:=[V3 c d f,V3 m o q]) B9 rfl m2 T rfl rfl) (lw [V3 c d f,V3 m o q] B9 T.f1 fun cI aH=>(nq (j9 ?_))))))
 cases oi ai
 exact ez results148 B9 aH m0 ⟨c,d,f,m,o,q,ac,ad,ae,bH,rfl,aH.f1.f4.f4.s,(ab.mono G.le),(bE.mono G.le),af,ag⟩

theorem J4 {q0:z7}{q1:List r4}{r:r4×z7}(hS:SH w K Z w K [s7 g1 [V3 A a b,V6 q0.p_] 141])(l:b7 tU8 K A a b q0.b_)(m:i7 q0.p_)(f:b7 D9 K B c d q1)(hm:I1 F q0 q1=some r):
  Calls prog 58 #[.pointer (some ⟨g1,0,none⟩),V3 B c d] w fun e w'=>∃a_2 n_3 c_4 K',e= .returned (sv r.1)∧SH w K Z w' K' [s7 g1 [V3 a_2 n_3 c_4,V6 r.2.p_] 141]∧r.1.length≤maxLen∧b7 tU8 K' a_2 n_3 c_4 r.2.b_∧i7 r.2.p_:=by
 rw [I1] at hm
 refine ci func58 u ntmps58 (sr (lv (r_s u) (nr (mv u (mv u (mv u (lv (q9 underlying23 u f) ?_)))))))
 obtain⟨W,o,q⟩:=ob hm
 refine lk a4r (A6 F hS.e1 l m f.rn o) ?_
 rintro X Y ⟨s,x,y,C,rfl,i,aa,D,G⟩
 have k:=(hS.c1 i).t1
 obtain⟨H,I,J⟩:=ob q
 refine li underlying23 G7 (f.mono i.le) I fun O R ab S T=>?_
 obtain⟨rfl,U⟩:=S
 have V:F1 _ O R [sv H]:=T
 refine lv (y9 G7 u k (V 0 _ u)) (av u (nq (j9 ?_)))
 cases oi J
 exact ey results58 ⟨s,x,y,C,u,k,U,D,G⟩

theorem b3T {q0:z7}{r:r4×z7}(hS:SH w K Z w K [s7 g1 [V3 A a b,V6 q0.p_] 141])(d:b7 tU8 K A a b q0.b_)(f:i7 q0.p_)(hm:a3M F q0=some r):
  Calls prog 238 #[.pointer (some ⟨g1,0,none⟩)] w fun e w'=>∃a_2 n_3 c_4 K',e= .returned (sv r.1)∧SH w K Z w' K' [s7 g1 [V3 a_2 n_3 c_4,V6 r.2.p_] 141]∧r.1.length≤maxLen∧b7 tU8 K' a_2 n_3 c_4 r.2.b_∧i7 r.2.p_:=by
 rw [a3M] at hm
 refine ci func238 u ntmps238 (sr (lv (r_s u) (nr (mv u (bw [[99,97,116],[67,97,116,115],[100,111,103],[100,111,103,115],[114,117,110],[82,85,78,78,73,78,71],[116,104,101],[114,101,100],[98,105,103],[110,101,119,32,121,111,114,107],[78,101,119,32,32,89,111,114,107],[110,121],[102,111,120],[112,97,115,115,101,100],[120,49],[97,118,101,114,121,118,101,114,121,108,111,110,103,119,111,114,100]] underlying23 G7 hS fun I J O i k l=>?_)))))
 obtain⟨R,m,o⟩:=ob hm
 have c:=l.f1
 refine lk b2o (J4 F c.e1 (d.mono i) f k m) ?_
 rintro S T ⟨q,s,x,y,rfl,B,C,D,G⟩
 have H:=(c.c1 B).t2
 refine av u (nq (j9 ?_))
 cases oi o
 exact ey results238 ⟨q,s,x,y,u,H.s,C,D,G⟩

theorem a7L {q0:z7}{r:r4×z7}(hS:SH w K Z w K [s7 g1 [V3 A a b,V6 q0.p_] 141])(S:b7 tU8 K A a b q0.b_)(T:i7 q0.p_)(hm:W5 F q0=some r):
  Calls prog 223 #[.pointer (some ⟨g1,0,none⟩)] w fun e w'=>∃a_2 n_3 c_4 K',e= .returned (sv r.1)∧SH w K Z w' K' [s7 g1 [V3 a_2 n_3 c_4,V6 r.2.p_] 141]∧r.1.length≤maxLen∧b7 tU8 K' a_2 n_3 c_4 r.2.b_∧i7 r.2.p_:=by
 rw [W5] at hm
 refine ci func223 u ntmps223 (sr (lv (r_s u) (nr (lv (r_s u) (O7 (mv u ?_))))))
 obtain⟨r7,U,V⟩:=ob hm
 refine lk a4r (A6 F hS.e1 S T (by decide :i7 9) U) ?_
 rintro aO aP ⟨W,X,Y,x,rfl,aa,ab,ac,ad⟩
 have ae:=(hS.c1 aa).t1
 refine av u (nq ?_)
 obtain⟨d,af,ag⟩:=ob V
 refine l4 (fun E' w'=>∃k l m f,E'=[(0,pt g1),(3,sv d.1)]∧SH w K Z w' f [s7 g1 [V3 k l m,V6 d.2.p_] 141]∧M0 x f∧d.1.length≤maxLen∧b7 tU8 f k l m d.2.b_∧i7 d.2.p_) ?_ ?_
 ·refine j7 ?_
  obtain⟨aQ,ah,ai⟩:=ob af
  refine qw (fun (c:r4×Int×z7) E' w'=>∃o q s i,E'=[(0,pt g1),(3,sv c.1),(4,V6 c.2.1)]∧SH w K Z w' i [s7 g1 [V3 o q s,V6 c.2.2.p_] 141]∧M0 x i∧c.1.length≤maxLen∧i7 c.2.1∧b7 tU8 i o q s c.2.2.b_∧i7 c.2.2.p_) ah ⟨W,X,Y,x,u,ae,kr,(by decide :([]:r4).length≤maxLen),ab,ac,ad⟩ ?_
  rintro c _ aR aS aj ak ⟨o,q,s,i,rfl,y,C,al,aT,D,G⟩
  refine o4 (sr (mv u (lv (E7 u u) (nq (D5 aj u (fun am B=>?_) (fun am B=>?_))))))
  ·refine j3 (qs (j7 (j5 (mv u (mv u ?_)))))
   obtain⟨aU,an,ao⟩:=ob B
   refine lk c6s (b3T F y.e1 D G an) ?_
   rintro aV aW ⟨aX,aY,aZ,ba,rfl,H,bb,ap,aq⟩
   have ar:=(y.c1 H).t1
   obtain⟨bc,au,aw⟩:=ob ao
   refine lv (b3c u u au) (mv u (bw [[32],[32],[44,32],[45],[46,32]] underlying23 G7 ar fun bd be bf I ax ay=>?_))
   obtain⟨bg,az,aA⟩:=ob aw
   have J:=ay.f1
   refine lk b2o (J4 F J.e1 (ap.mono I) aq ax az) ?_
   rintro bh bi ⟨aB,aC,aD,aE,rfl,O,bj,aF,aG⟩
   have aH:=(J.c1 O).t2
   obtain⟨bk,R,aI⟩:=ob aA
   refine lv (b3c u u R) (av u (nb (l5 (j5 (mv u (lv (I6 u u) (av u (i8 ?_))))))))
   cases oi aI
   exact qd ⟨_,u,aB,aC,aD,aE,u,aH.s,(((C.trans H.le).trans I).trans O.le),(b5P R),(u0 _),aF,aG⟩
  refine y4 (g8 (g8 ?_))
  cases oi B
  cases ak _ u
  refine l6 ?_
  cases oi ai
  exact qd ⟨o,q,s,i,u,y,C,al,D,G⟩
 rintro _ bl ⟨k,l,m,f,rfl,aJ,bm,aK,aL,aM⟩
 refine qr (mv u (av u (nq (j9 ?_))))
 cases oi ag
 exact ey results223 ⟨k,l,m,f,u,aJ,aK,aL,aM⟩

theorem b0E {q0:C0}{q1:r4}{q2:D3}{r:Bool}(hS:SH w K Z w K [s7 c [sv q1] 9,s7 d [sv q2.Text,V6 q2.At] 107])(o:q0.Field.length≤maxLen)(q:q0.Term.length≤maxLen)(s:b7 S2 K A a b q0.Posts)(x:q1.length≤maxLen)(y:q2.Text.length≤maxLen)(B:i7 q2.At)(hm:a3g F q0 q1 q2=some r):
  Calls prog 153 #[.agg #[sv q0.Field,sv q0.Term,V3 A a b],.pointer (some ⟨c,0,none⟩),.pointer (some ⟨d,0,none⟩)] w fun e w'=>∃K',e= .returned (.bool r)∧SH w K Z w' K' [s7 c [sv q1] 9,s7 d [sv q2.Text,V6 q2.At] 107]:=by
 rw [a3g] at hm
 refine ci func153 u ntmps153 (sr (bx u hS fun l C m=>?_))
 have i:SH _ _ _ _ _ [s7 l [sv q0.Field,sv q0.Term,V3 A a b] 99,_,_]:=m
 refine lv (O6 u) (nr (fl a3z u G7 m0 i u (lv (w8 G7 u m1 i u) (lv (J8 u u) (mv u (bt hm (fun f k=>?_) (fun f k=>?_)))))))
 ·refine lg f (c7 a21 u) (lg f (w8 G7 u m0 i u) (lg f (c7 a3Z u) (lg f (w8 G7 u m2 i u) (lg f (J8 u u) (lv (n9 u f u) (av u (nq (j9 ?_))))))))
  cases oi k
  exact ey results153 ⟨K,u,i.s⟩
 iterate 5 refine lu f ?_
 refine lv (L8 u f u) (av u (nq (j9 ?_)))
 cases oi k
 exact ey results153 ⟨K,u,i.s⟩

theorem a2h {q0:List C0}{q1c0:r4}{q1c1:D3}{r:Int}(hS:SH w K Z w K [s7 c [sv q1c0] 9,s7 d [sv q1c1.Text,V6 q1c1.At] 107])(f:b7 B8 K A a b q0)(O:q1c0.length≤maxLen)(R:q1c1.Text.length≤maxLen)(S:i7 q1c1.At)(hm:G5 F q0 q1c0 q1c1=some r):
  Calls prog 152 #[V3 A a b,.func (.func 153) #[] #[.pointer (some ⟨c,0,none⟩),.pointer (some ⟨d,0,none⟩)]] w fun e w'=>∃K',e= .returned (V6 r)∧SH w K Z w' K' [s7 c [sv q1c0] 9,s7 d [sv q1c1.Text,V6 q1c1.At] 107]∧i7 r:=by
 rw [G5] at hm
 refine ci func152 u ntmps152 (sr (lv (N2 u) (O7 (mv u (lv (q9 underlying28 u f) (lv (r_m u) (nq ?_)))))))
 obtain⟨T,U,i⟩:=ob hm
 refine l4 (IE T w K Z K [] [s7 c [sv q1c0] 9,s7 d [sv q1c1.Text,V6 q1c1.At] 107]) ?_ ?_
 ·refine j7 ?_
  obtain⟨aq,V,q⟩:=ob U
  refine qf (fun (s:Nat) (x:Unit)=>IV w K Z K [(0,V3 A a b),(1,.func (.func 153) #[] #[pt c,pt d]),(7,V6 (q0.length:Int)),(8,V6 ((s:Nat):Int))] [s7 c [sv q1c0] 9,s7 d [sv q1c1.Text,V6 q1c1.At] 107]) V ⟨K,u,hS,kr⟩ ?_ ?_
  ·rintro s x _ W ar hi29 X Y ⟨y,rfl,k,l⟩
   refine sr (lv (u7 u u) (ns (C9 u (b8 (by omega)) (j3 (l5 (o4 (j7 (sr (mv u (av u (nr (mv u ?_))))))))))))
   refine mv u (mv u ?_)
   obtain⟨m,aa,ab⟩:=ob X
   refine li underlying28 P2 (f.mono l) aa fun ac ad au ae af=>?_
   obtain⟨B,C,D,rfl,ag,ah,ai⟩:=ae
   have aj:F1 _ ac ad [sv m.Field,sv m.Term,V3 B C D]:=af
   refine lv (F3 P2 u k aj u) ?_
   obtain⟨aw,ak,al⟩:=ob ab
   have G:=k.f1.f1
   refine A3 wn u (b0W (vs:=[.agg #[sv m.Field,sv m.Term,V3 B C D]]) (cap:=#[pt c,pt d]) c5U u u) (b0E F G.e2 ag ah ai O R S ak) ?_
   rintro ax ay ⟨H,rfl,I⟩
   refine⟨_,u,?_⟩
   have J:=(G.c2 I).t2
   refine nq (D5 al u (fun am o=>?_) (fun am o=>?_))
   ·refine sr (mv u (av u (nq (j9 (i9 (c9 (c9 ?_)))))))
    cases oi o
    cases Y _ u
    refine i9 (c9 ?_)
    cases oi q
    refine c9 ?_
    cases oi i
    exact ey results152 ⟨H,u,J,(b28 hi29 (b7.max f))⟩
   refine j3 (x8 (qg (lv (B6 u u (C6 hi29 (b7.max f))) (mv u (i8 ?_)))))
   cases oi o
   exact qd ⟨_,u,H,u,J,(l.trans I.le)⟩
  rintro x _ W an ⟨y,rfl,k,l⟩
  subst an
  refine sr (lv (u7 u u) (ns (C8 u (c6 (by omega)) (y4 (g8 (g8 (l6 ?_)))))))
  cases oi q
  exact L6 ⟨_,y,u,u,k,l⟩ trivial
 rintro _ az ⟨aA,ao,rfl,rfl,ap,aB⟩
 have i:=E9 i
 refine qr (lv (u9 (v:=V6 (-1)) u) (nq (j9 ?_)))
 cases oi i
 exact ey results152 ⟨ao,u,ap,(by decide :i7 (-1))⟩

theorem b2x {g:Nat}{a:Option Addr}{n:Nat}{c:Nat}{lay:List L9}{q0:A5}{q1:r4}{q2:D3}{q3:Int}{r:A5}(aJ:SH w K (List.flatMap F5.gs [s7 g [V3 A b d,V3 a n c] 30,a8D (S6 99 48 3 a n c lay)]) w K [s7 g [V3 A b d,V3 a n c] 30,a8D (S6 99 48 3 a n c lay)])(aK:b7 F6 K A b d q0.Docs)(U:a7A lay q0.Entries)(ap:q1.length≤maxLen)(aq:q2.Text.length≤maxLen)(ag:i7 q2.At)(aL:i7 q3)(hm:a2H F q0 q1 q2 q3=some r):
  Calls prog 111 #[.pointer (some ⟨g,0,none⟩),sv q1,.agg #[sv q2.Text,V6 q2.At],V6 q3] w fun e w'=>∃a_1 n_2 c_3 a_4 n_5 c_6 lay_7 K',e= .returned (.tuple #[])∧SH w K (List.flatMap F5.gs [s7 g [V3 A b d,V3 a n c] 30,a8D (S6 99 48 3 a n c lay)]) w' K' [s7 g [V3 a_1 n_2 c_3,V3 a_4 n_5 c_6] 30,a8D (S6 99 48 3 a_4 n_5 c_6 lay_7)]∧b7 F6 K' a_1 n_2 c_3 r.Docs∧a7A lay_7 r.Entries:=by
 rw [a2H] at hm
 obtain⟨k,aM,h1⟩:=ob hm
 obtain⟨es,B,h2⟩:=ob h1
 obtain⟨en,ar,h3⟩:=ob h2
 obtain⟨ps,C,h4⟩:=ob h3
 obtain⟨p,ah,h5⟩:=ob h4
 obtain⟨at_,V,h6⟩:=ob h5
 cases oi h6
 have aT:SH w K (List.flatMap F5.gs [s7 g [V3 A b d,V3 a n c] 30,a8D (S6 99 48 3 a n c lay)]) w K (a1Z 99 a n c lay::((lay).flatMap (L9.items 48 3)++[s7 g [V3 A b d,V3 a n c] 30])):=(aJ.perm (List.Perm.swap _ _ _)).unpack
 have aU:SH w K (List.flatMap F5.gs [s7 g [V3 A b d,V3 a n c] 30,a8D (S6 99 48 3 a n c lay)]) w K (s7 g [V3 A b d,V3 a n c] 30::a1Z 99 a n c lay::(lay).flatMap (L9.items 48 3)):=aT.perm (by rw [←List.cons_append];exact List.perm_append_singleton _ _ |>.symm)
 generalize hMM:(List.flatMap F5.gs [s7 g [V3 A b d,V3 a n c] 30,a8D (S6 99 48 3 a n c lay)])=MM at *
 refine ci func111 rfl ntmps111 (sr (bx rfl aU fun i w5 hS3'=>?_))
 have aW:SH w K MM w5 K (s7 i [sv q1] 9::s7 g [V3 A b d,V3 a n c] 30::a1Z 99 a n c lay::(lay).flatMap (L9.items 48 3)):=hS3'
 refine bx rfl aW fun f w6 hS4'=>?_
 have au:SH w K MM w6 K (s7 f [sv q2.Text,V6 q2.At] 107::s7 i [sv q1] 9::s7 g [V3 A b d,V3 a n c] 30::a1Z 99 a n c lay::(lay).flatMap (L9.items 48 3)):=hS4'
 refine nr (mv rfl (lv (B7 rfl) (fl M2 rfl a1e m2 au rfl (lv (b2e (vs:=[pt i,pt f]) rfl) ?_))))
 obtain⟨gs,hgs⟩: ∃gs,gs=(a1Z 99 a n c lay::(lay).flatMap (L9.items 48 3)).flatMap F5.gs:=⟨_,rfl⟩
 have s:SH w K MM w6 K ([s7 i [sv q1] 9,s7 f [sv q2.Text,V6 q2.At] 107]++(s7 g [V3 A b d,V3 a n c] 30::a1Z 99 a n c lay::(lay).flatMap (L9.items 48 3))):=au.perm (List.Perm.swap _ _ _)
 have hnd:=s.nodup
 rw [List.flatMap_append,List.nodup_append,List.flatMap_cons] at hnd
 have hg56:i∉gs∧f∉gs:=by
  rw [hgs]
  exact⟨fun hb=>hnd.2.2 i (by simp [s7,Go.Fk.one]) i (List.mem_append_right _ hb) rfl,fun hb=>hnd.2.2 f (by simp [s7,Go.Fk.one]) f (List.mem_append_right _ hb) rfl⟩
 have hseg:=c2j (TE:=99) (TP:=48) (TI:=3) (gs:=gs) s (fun it hi=>List.mem_append_right _ (List.mem_cons_of_mem _ hi)) (fun it hi b hb=>by rw [hgs];exact List.mem_flatMap.2 ⟨it,hi,hb⟩) U
 have hlnd:=s.lend (Kin:=b1K K w6 gs) (b5i s.holds) (fun it hi=>by
  rcases List.mem_cons.1 hi with rfl | hi
  ·exact b9b (s.items _ (List.mem_cons_self ..)) hg56.1
  rcases List.mem_singleton.1 hi with rfl
  exact b9b (s.items _ (List.mem_cons_of_mem _ (List.mem_cons_self ..))) hg56.2)
 refine lk c5T (a2h F hlnd hseg.1 ap aq ag aM) ?_
 rintro e7 w7 ⟨K7,rfl,hS7',bz⟩
 have aX:SH w K MM w7 K ([s7 i [sv q1] 9,s7 f [sv q2.Text,V6 q2.At] 107]++(s7 g [V3 A b d,V3 a n c] 30::a1Z 99 a n c lay::(lay).flatMap (L9.items 48 3))):=s.lent (b39 s.holds) hS7' rfl (fun it hi=>by
  rcases List.mem_cons.1 hi with rfl | hi
  ·exact c14 (hS7'.items _ (List.mem_cons_self ..)) ((b39 s.holds).trans hS7'.le)
  rcases List.mem_singleton.1 hi with rfl
  exact c14 (hS7'.items _ (List.mem_cons_of_mem _ (List.mem_cons_self ..))) ((b39 s.holds).trans hS7'.le))
 have aj:SH w K MM w7 K (s7 f [sv q2.Text,V6 q2.At] 107::s7 i [sv q1] 9::s7 g [V3 A b d,V3 a n c] 30::a1Z 99 a n c lay::(lay).flatMap (L9.items 48 3)):=aX.perm (List.Perm.swap _ _ _)
 refine av rfl (O7 (mv rfl (lv (u7 rfl rfl) (nq (l4 (fun E' w'=>∃a2 l m lay2 D,E'=[(0,pt g),(3,V6 q3),(6,pt f),(8,V6 (cond (decide (k<0)) (q0.Entries.length:Int) k))]∧SH w K MM w' D (s7 f [sv q2.Text,V6 q2.At] 107::s7 i [sv q1] 9::s7 g [V3 A b d,V3 a2 l m] 30::a1Z 99 a2 l m lay2::(lay2).flatMap (L9.items 48 3))∧M0 K D∧a7A lay2 es) ?_ ?_)))))
 ·refine R9 rfl (fun hb=>?_) (fun hb=>?_)
  ·rw [hb] at B ⊢
   simp only [j4] at B ⊢
   refine sr (mv rfl (lv (B7 rfl) (fl M2 rfl a1e m2 aj rfl (lv (a69 underlying28 rfl hseg.2) (av rfl (nq ?_))))))
   have G:=aj.drew
   refine wh1 (fun w'=>H0 K w'∧B0 i [sv q1] w'∧B0 f [sv q2.Text,V6 q2.At] w') (fun w'=>B0 g [V3 A b d,V3 a n c] w') 13 [(4,10),(10,13)] mixed ⟨G.hasK kr,G.hasObj m1,G.hasObj m0⟩ (fun _=>G.hasObj (.tail _ (.tail _ (.head _)))) (gt (i5 rfl) (gt (i5 rfl) (gt (B7 rfl) (gt (c7 M2 rfl) (gf (fun _ h=>B5 a1e rfl rfl h) (gh (fun _ h=>B5 G7 rfl rfl h.2.1) (gt (c7 a3Z rfl) (gh (fun _ h=>B5 G7 rfl rfl h.2.2) (gt (C3 (cs:=#[sv q1,sv q2.Text,V3 none 0 0]) c6N P2 rfl (by kernel_rfl)) ?_)))))))))
   refine gn (J2 (t:=c04 3) (n:=1) (pv:=[(0,.agg #[sv q1,sv q2.Text,V3 none 0 0])]) (cs:=[sv q1,sv q2.Text,V3 none 0 0]) (xs:=[([sv q1,sv q2.Text,V3 none 0 0]:List Value)]) wn rfl underlying28 P2 rfl rfl rfl (by kernel_rfl) rfl rfl (H5 (t:=c04 3) (u:=.agg #[sv q1,sv q2.Text,V3 none 0 0]) (z:=([sv q1,sv q2.Text,V3 none 0 0]:List Value)) ⟨rfl,rfl,by simp [Value.oneCell',sv]⟩ a1W) G fun a9 w9 K9 W ay hS9'=>?_)
   obtain⟨b9,o9,rfl⟩:=b7n ay
   have aZ:=b9p ay
   have H:=hS9'.drop
   refine i8 (qh ⟨H.hasK W,H.hasObj m1,H.hasObj m0⟩ (fun _=>H.hasObj (.tail _ (.tail _ (.head _)))) ?_)
   unfold O2 at B
   split at B
   case isFalse=>cases B
   rename_i hbd
   cases B
   have hnl:n=q0.Entries.length:=hseg.2
   have hS9t:SH w K MM w9 K9 (Z5 (V3 a n c) (lay.flatMap L9.cells) 99 3::(s7 f [sv q2.Text,V6 q2.At] 107::s7 i [sv q1] 9::s7 g [V3 A b d,V3 a n c] 30::(lay).flatMap (L9.items 48 3))):=H.perm (List.perm_middle (l₁:=[_,_,_])).symm
   refine gn ?_
   have hcl9:(lay.flatMap L9.cells).length=n*3:=by rw [a41,←b4e hS9t (List.mem_cons_self ..)]
   refine a95 wn rfl underlying28 P2 rfl rfl rfl (by decide) rfl aZ (by simp [Value.oneCell',sv]) hcl9 (by simp at hbd;omega) (by simp at hbd;omega) hS9t fun X Y bD I=>(i8 (qh ⟨I.hasK W,I.hasObj m2,I.hasObj m1⟩ (fun _=>I.hasObj (.tail _ (.tail _ (.tail _ (.head _))))) (gt (B7 rfl) (gt (c7 M2 rfl) (gn (ls [V3 A b d,V3 (some ⟨X,0,none⟩) (n+1) Y] (V3 (some ⟨X,0,none⟩) (n+1) Y) a1e I.f3 fun ba aa=>(i8 (qh ⟨aa.hasK W,aa.hasObj m3,aa.hasObj m2⟩ (fun h=>by cases h) (gd' ?_)))))))))
   have bb:=SH.rowNil aa 48 2
   have bc:SH w K MM ba K9 (s7 f [sv q2.Text,V6 q2.At] 107::s7 i [sv q1] 9::s7 g [V3 A b d,V3 (some ⟨X,0,none⟩) (n+1) Y] 30::a1Z 99 (some ⟨X,0,none⟩) (n+1) Y (lay++[L9.mk q1 q2.Text [] none 0 0])::((lay++[L9.mk q1 q2.Text [] none 0 0])).flatMap (L9.items 48 3)):=by
    have e1:(lay++[L9.mk q1 q2.Text [] none 0 0]).flatMap L9.cells=lay.flatMap L9.cells++[sv q1,sv q2.Text,V3 none 0 0]:=by rw [List.flatMap_append];rfl
    have e2:((lay++[L9.mk q1 q2.Text [] none 0 0])).flatMap (L9.items 48 3)=(lay).flatMap (L9.items 48 3)++[Z5 (V3 none 0 0) [] 48 2]:=by rw [List.flatMap_append];rfl
    unfold a1Z
    rw [e1,e2]
    exact bb.perm ((show List.Perm ((_::_::_::_::(lay).flatMap (L9.items 48 3))++[_]) _ from List.perm_append_singleton _ _).trans (.cons _ (List.Perm.append_right ((lay).flatMap (L9.items 48 3)) (List.perm_append_comm (l₁:=[_,_]) (l₂:=[_,_])))))
   refine L6 ⟨_,_,_,_,K9,rfl,bc,W,fun x hx=>?_,?_⟩ ⟨rfl,rfl,rfl,rfl,trivial⟩
   ·rcases List.mem_append.1 hx with hx | hx
    ·exact U.1 x hx
    rcases List.mem_singleton.1 hx with rfl
    exact⟨ap,aq,by simp⟩
   rw [List.map_append,U.2];rfl
  rw [hb] at B ⊢
  simp only [i6] at B ⊢
  cases oi B
  exact j3 (qd ⟨a,n,c,lay,K,rfl,aj,.refl _,U⟩)
 rintro _ az ⟨a2,l,m,lay2,D,rfl,am,aA,hlay2⟩
 generalize hkk:(cond (decide (k<0)) (q0.Entries.length:Int) k)=kk at *
 obtain⟨hok2,hes⟩:=hlay2
 obtain⟨el,aB,hel⟩:=b7x (hes▸ar:v8 (lay2.map L9.x) kk=some en)
 obtain⟨pre,post,hsplit,hpre,bE⟩:=c2k aB
 have hn2:=b4e am m3
 have hn2e:l=es.length:=by rw [←hes,List.length_map];exact hn2
 obtain⟨gE,rfl⟩:=SH.rowI_at am m3 hn2 aB
 obtain⟨R,hR⟩: ∃R,R=((pre).flatMap (L9.items 48 3)++(post).flatMap (L9.items 48 3)):=⟨_,rfl⟩
 have y:SH w K MM az D (s7 f [sv q2.Text,V6 q2.At] 107::s7 i [sv q1] 9::s7 g [V3 A b d,V3 (some ⟨gE,0,none⟩) l m] 30::a1Z 99 (some ⟨gE,0,none⟩) l m (pre++el::post)::L9.row 48 el::(el.posts.map (Y5.item 3)++R)):=by
  rw [hR]
  have J:=am
  rw [hsplit] at J
  exact J.perm ((List.Perm.append_left [_,_,_] (b5j (TE:=99) (TP:=48) (TI:=3))).symm)
 have helok:el.ok:=hok2 el (by rw [hsplit];simp)
 have hnP:el.n=el.posts.length:=b4c y m4
 have hhead:=b4a (pre:=pre) (post:=post) (e:=el) (o:=kk.toNat*3+2) (by rw [hpre])
 have hpl:el.posts.length≤maxLen:=b7q y m4 hnP
 have henp:en.Posts=el.posts.map Y5.x:=by rw [←hel];rfl
 refine qr (mv rfl (lv (B7 rfl) (fl M2 rfl a1e m2 y rfl (mv rfl (lv (a5Q (t:=B8) underlying28 P2 rfl rfl rfl hn2e ar) (av rfl (nr (mv rfl (lv (B7 rfl) ?_)))))))))
 refine fa Y0 rfl (lv (a4Y a5B rfl rfl hhead rfl (y.hasRow (.tail _ (.tail _ (.tail _ (.head _)))))) (lv (a69 underlying37 rfl hnP) (lv (I6 rfl rfl) (av rfl (ns (o4 (l4 (fun E' w'=>E'=[(3,V6 q3),(6,pt f),(9,.pointer (some ⟨gE,kk.toNat*B8.size,none⟩)),(10,V6 (z8 ((el.posts.length:Int)-1))),(62,.bool (R0 en.Posts q3))]∧w'=az) ?_ ?_)))))))
 ·refine j5 (mv rfl (lv (u7 rfl rfl) (mv rfl ?_)))
  rcases List.eq_nil_or_concat el.posts with hnil | ⟨ps0,p0,hcat⟩
  ·have hb:decide (z8 ((el.posts.length:Int)-1)<0)=true:=by rw [b3e hpl,hnil];rfl
   have hnp:R0 en.Posts q3=true:=by rw [henp,hnil];rfl
   rw [hnp]
   iterate 10 refine lu hb ?_
   refine lv (J6 rfl hb rfl) (i8 ?_)
   exact qd ⟨rfl,rfl⟩
  rw [List.concat_eq_append] at hcat
  have hlp:el.posts.length=ps0.length+1:=by rw [hcat];simp
  have hw:z8 ((el.posts.length:Int)-1)=(ps0.length:Int):=by rw [b3e hpl,hlp];omega
  have hb:decide (z8 ((el.posts.length:Int)-1)<0)=false:=by rw [hw];exact c6 (by omega)
  have hnp:R0 en.Posts q3= !(p0.doc==q3):=by rw [henp,hcat,List.map_append];simp [R0,Y5.x]
  rw [hnp]
  have hzp:v8 en.Posts (z8 ((el.posts.length:Int)-1))=some p0.x:=by rw [henp,hcat,List.map_append];exact b56 (by rw [←hcat,hw];simp)
  have hnPe:el.n=en.Posts.length:=by rw [henp,List.length_map];exact hnP
  obtain⟨gP,hgP⟩:=SH.rowI_at y m4 hnPe hzp
  have hdoc:(el.posts.flatMap Y5.cells)[(z8 ((el.posts.length:Int)-1)).toNat*2+0]? =some (V6 p0.doc):=by rw [hcat];exact b4b (k:=0) (by rw [←hcat,hw];simp)
  refine lg hb (i5 rfl) (lg hb (B7 rfl) (lg hb (c7 Y0 rfl) (lg hb (a4Y a5B rfl rfl hhead rfl (y.hasRow (.tail _ (.tail _ (.tail _ (.head _)))))) (lg hb (i5 rfl) (lg hb (a5Q (t:=S2) underlying37 a02 rfl rfl hgP hnPe hzp) (lg hb (c7 a5U rfl) (lg hb (a4Y E6 rfl rfl hdoc hgP (y.hasRow (.tail _ (.tail _ (.tail _ (.tail _ (.head _))))))) (lg hb (i5 rfl) (lg hb (R2 rfl rfl) ?_)))))))))
  refine lv (l9 rfl hb rfl) (i8 ?_)
  exact qd ⟨rfl,rfl⟩
 rintro _ _ ⟨rfl,rfl⟩
 refine l5 (l4 (fun E' w'=>∃el2 ps0 pl K3,E'=[(6,pt f),(9,.pointer (some ⟨gE,kk.toNat*B8.size,none⟩)),(10,V6 (ps0.length:Int))]∧SH w K MM w' K3 (s7 f [sv q2.Text,V6 q2.At] 107::s7 i [sv q1] 9::s7 g [V3 A b d,V3 (some ⟨gE,0,none⟩) l m] 30::a1Z 99 (some ⟨gE,0,none⟩) l m (pre++el2::post)::L9.row 48 el2::(pl.item 3::(ps0.map (Y5.item 3)++R)))∧M0 K K3∧el2.ok∧el2.field=el.field∧el2.term=el.term∧el2.posts=ps0++[pl]∧ps=el2.posts.map Y5.x) ?_ ?_)
 ·refine R9 rfl (fun hb=>?_) (fun hb=>?_)
  ·rw [hb] at C
   simp only [j4] at C
   refine sr (mv rfl (mv rfl (lv (B7 rfl) (fa Y0 rfl (lv (a4Y a5B rfl rfl hhead rfl (y.hasRow (.tail _ (.tail _ (.tail _ (.head _)))))) (mv rfl (lv (C3 (cs:=#[V6 q3,V3 none 0 0]) c5i a02 rfl (by kernel_rfl)) (J2 (t:=c04 2) (n:=1) (pv:=[(0,.agg #[V6 q3,V3 none 0 0])]) (cs:=[V6 q3,V3 none 0 0]) (xs:=[([V6 q3,V3 none 0 0]:List Value)]) wn rfl underlying37 a02 rfl rfl rfl (by kernel_rfl) rfl rfl (H5 (t:=c04 2) (u:=.agg #[V6 q3,V3 none 0 0]) (z:=([V6 q3,V3 none 0 0]:List Value)) ⟨rfl,rfl,by simp [Value.oneCell']⟩ a1W) y fun bF bG aC bd aD hS22'=>?_))))))))
   obtain⟨bH,bI,rfl⟩:=b7n aD
   have be:=b9p aD
   have bf:=hS22'.drop
   unfold O2 at C
   split at C
   case isFalse=>cases C
   rename_i hbd
   cases C
   have hbd2:(el.n+1)*32≤140737488355328:=by rw [henp] at hbd;simp at hbd;rw [hnP];exact hbd
   refine a95 wn rfl underlying37 a02 rfl rfl rfl (by decide) rfl be (by simp [Value.oneCell']) (by rw [a40,hnP]) (by omega) hbd2 bf.f4 fun aE c24 bJ bg=>(lv (B7 rfl) (fa Y0 rfl (b5w wn a5B rfl rfl rfl bg.f4 (by have:=(i4.1 hhead).1;exact this) ?_)))
   intro bh bi
   refine nq (j5 (mv rfl (lv (y7 rfl rfl) (lv (b9v rfl (congrArg (Value.int .i64) (c3C hpl))) (i8 ?_)))))
   obtain⟨el2,hel2⟩: ∃el2:L9,el2=⟨el.field,el.term,el.posts++[⟨q3,[],none,0,0⟩],some ⟨aE,0,none⟩,el.n+1,c24⟩:=⟨_,rfl⟩
   have hset:=b7y (pre:=pre) (post:=post) (e:=el) (e':=el2) (o:=kk.toNat*3+2) (by rw [hpre]) (by rw [hel2]) (by rw [hel2])
   have bj:SH w K MM bh aC (Z5 (V3 (some ⟨gE,0,none⟩) l m) ((pre++el2::post).flatMap L9.cells) 99 3::L9.row 48 el2::s7 f [sv q2.Text,V6 q2.At] 107::s7 i [sv q1] 9::s7 g [V3 A b d,V3 (some ⟨gE,0,none⟩) l m] 30::(el.posts.map (Y5.item 3)++R)):=by
    have e1:el2.posts.flatMap Y5.cells=el.posts.flatMap Y5.cells++[V6 q3,V3 none 0 0]:=by rw [hel2,List.flatMap_append];rfl
    have e2:el2.a=some ⟨aE,0,none⟩:=by rw [hel2]
    have e3:el2.n=el.n+1:=by rw [hel2]
    have e4:el2.c=c24:=by rw [hel2]
    rw [←hset]
    unfold L9.row
    rw [e1,e2,e3,e4]
    exact bi
   have bk:=SH.rowNil bj 3 1
   refine L6 ⟨el2,el.posts,⟨q3,[],none,0,0⟩,aC,rfl,bk.perm ?_,aA.trans bd,?_,by rw [hel2],by rw [hel2],by rw [hel2],?_⟩ ⟨rfl,rfl,rfl,trivial⟩
   ·exact(List.Perm.append_left [_,_,_,_,_] (List.Perm.refl _)).trans ((List.perm_middle (l₁:=[_,_,_,_,_])).trans (.cons _ (List.Perm.append_right _ (List.perm_append_comm (l₁:=[_,_,_]) (l₂:=[_,_])))))
   ·rw [hel2]
    refine⟨helok.1,helok.2.1,fun q hq=>?_⟩
    rcases List.mem_append.1 hq with hq | hq
    ·exact helok.2.2 q hq
    rcases List.mem_singleton.1 hq with rfl
    exact⟨aL,by simp⟩
   rw [hel2,henp,List.map_append];rfl
  rw [hb] at C
  simp only [i6] at C
  cases oi C
  refine j3 ?_
  rcases List.eq_nil_or_concat el.posts with hnil | ⟨ps0,p0,hcat⟩
  ·rw [henp,hnil] at hb;cases hb
  rw [List.concat_eq_append] at hcat
  have hlp:el.posts.length=ps0.length+1:=by rw [hcat];simp
  have hw:z8 ((el.posts.length:Int)-1)=(ps0.length:Int):=by rw [b3e hpl,hlp];omega
  rw [hw]
  refine L6 ⟨el,ps0,p0,D,rfl,?_,aA,helok,rfl,rfl,hcat,henp⟩ ⟨rfl,rfl,rfl,trivial⟩
  have J:=y
  rw [hcat] at J
  exact J.perm (List.Perm.append_left [_,_,_,_,_] (b31 (TI:=3)).symm)
 rintro _ bK ⟨el2,ps0,pl,K3,rfl,ac,bl,hel2ok,hf2,ht2,hcat2,hps⟩
 refine l5 ?_
 have hpx:p=pl.x:=by rw [hps,hcat2,List.map_append] at ah;simp at ah;exact ah.symm
 have hn30:el2.n=el2.posts.length:=b4c ac m4
 have bm:v8 el2.posts (ps0.length:Int)=some pl:=by rw [hcat2];exact b56 rfl
 obtain⟨gP,hgP⟩:=SH.rowI_at ac m4 hn30 bm
 have hpn:pl.n=pl.at_.length:=b7A ac m5
 have hhead2:=b4a (pre:=pre) (post:=post) (e:=el2) (o:=kk.toNat*3+2) (by rw [hpre])
 have aF:v8 (el2.posts.map Y5.x) (ps0.length:Int)=some pl.x:=by rw [hcat2,List.map_append];exact b56 (by simp)
 have hn31:el2.n=(el2.posts.map Y5.x).length:=by rw [List.length_map];exact hn30
 have hat:(el2.posts.flatMap Y5.cells)[(ps0.length:Int).toNat*2+1]? =some (V3 pl.a pl.n pl.c):=by rw [hcat2];exact b4b (k:=1) (by simp)
 have O:=ac.drew
 refine wh1 (fun w'=>H0 K3 w'∧a9N (some ⟨gE,0,none⟩) ((pre++el2::post).flatMap L9.cells) w'∧B0 f [sv q2.Text,V6 q2.At] w') (fun w'=>a9N el2.a (el2.posts.flatMap Y5.cells) w') 19 [(12,16),(16,19)] mixed ⟨O.hasK kr,O.hasRow m3,O.hasObj m0⟩ (fun _=>O.hasRow (.tail _ (.tail _ (.tail _ (.tail _ (.head _)))))) (gt (i5 rfl) (gt (B7 rfl) (gt (c7 Y0 rfl) (gh (fun _ h=>a4Y a5B rfl rfl hhead2 rfl h.2.1) (gt (i5 rfl) (gt (i5 rfl) (gt (B7 rfl) (gt (c7 Y0 rfl) (gh (fun _ h=>a4Y a5B rfl rfl hhead2 rfl h.2.1) ?_)))))))))
 refine gt (i5 rfl) (gt (a5Q (t:=S2) underlying37 a02 rfl rfl hgP hn31 aF) (gt (c7 a4M rfl) (gf (fun _ h=>a4Y a1g rfl rfl hat hgP h) (gt (c7 a30 rfl) (gh (fun _ h=>B5 E6 rfl rfl h.2.2) (gn (lb D6 (V6 q2.At) [V6 q2.At] q2.At underlying46 E6 ⟨rfl,ag⟩ O fun bL bM ad ae aG hS35'=>?_)))))))
 obtain⟨bN,bO,rfl⟩:=c3B aG
 have bn:=c3c aG
 have S:=hS35'.drop
 refine i8 (qh ⟨S.hasK ae,S.hasRow m3,S.hasObj m0⟩ (fun _=>S.hasRow (.tail _ (.tail _ (.tail _ (.tail _ (.head _)))))) (gn ?_))
 unfold O2 at V
 split at V
 case isFalse=>cases V
 rename_i hbd
 cases V
 have hbd2:(pl.n+1)*8≤140737488355328:=by rw [hpx] at hbd;simp [Y5.x] at hbd;rw [hpn];exact hbd
 refine a95 wn rfl underlying46 E6 rfl rfl rfl (by decide) rfl bn (by simp [Value.oneCell']) (by rw [List.length_map,hpn,Nat.mul_one]) (by omega) hbd2 S.f5 fun aH c37 bP T=>(i8 (qh ⟨T.hasK ae,T.hasRow m4,T.hasObj m1⟩ (fun _=>T.hasRow (.tail _ (.tail _ (.tail _ (.tail _ (.tail _ (.head _))))))) (gt (a5Q (t:=S2) underlying37 a02 rfl rfl hgP hn31 aF) (gt (c7 a4M rfl) (gn ?_)))))
 obtain⟨fl2,tm2,po2,a2',m2',c2'⟩:=el2
 simp only at hgP hat hcat2 hf2 ht2 hn30
 subst hgP
 refine b5w wn a1g rfl rfl rfl T.f5 (by have:=(i4.1 hat).1;exact this) ?_
 intro ao af
 refine i8 (qh ⟨af.hasK ae,af.hasRow m5,af.hasObj m2⟩ (fun h=>by cases h) (gd' ?_))
 subst hR
 subst hcat2
 obtain⟨pl2,hpl2⟩: ∃pl2:Y5,pl2=⟨pl.doc,pl.at_++[q2.At],some ⟨aH,0,none⟩,pl.n+1,c37⟩:=⟨_,rfl⟩
 obtain⟨el3,hel3⟩: ∃el3:L9,el3=⟨fl2,tm2,ps0++[pl2],some ⟨gP,0,none⟩,m2',c2'⟩:=⟨_,rfl⟩
 have bo:SH w K MM ao ad (L9.row 48 el3::pl2.item 3::s7 f [sv q2.Text,V6 q2.At] 107::s7 i [sv q1] 9::s7 g [V3 A b d,V3 (some ⟨gE,0,none⟩) l m] 30::a1Z 99 (some ⟨gE,0,none⟩) l m (pre++el3::post)::(ps0.map (Y5.item 3)++((pre).flatMap (L9.items 48 3)++(post).flatMap (L9.items 48 3)))):=by
  have e1:=b7C (ps:=ps0) (p:=pl) (p':=pl2) (o:=(ps0.length:Int).toNat*2+1) (by simp) (by rw [hpl2])
  have e2:pl2.a=some ⟨aH,0,none⟩:=by rw [hpl2]
  have e3:pl2.n=pl.n+1:=by rw [hpl2]
  have e4:pl2.c=c37:=by rw [hpl2]
  have e5:pl2.at_.map b5L=pl.at_.map b5L++[V6 q2.At]:=by rw [hpl2,List.map_append];rfl
  have e6:(pre++el3::post).flatMap L9.cells=(pre++⟨fl2,tm2,ps0++[pl],some ⟨gP,0,none⟩,m2',c2'⟩::post).flatMap L9.cells:=by rw [hel3,List.flatMap_append,List.flatMap_append,List.flatMap_cons,List.flatMap_cons];rfl
  have e7:L9.row 48 el3=Z5 (V3 (some ⟨gP,0,none⟩) m2' c2') ((ps0++[pl2]).flatMap Y5.cells) 48 2:=by rw [hel3];rfl
  rw [e7,←e1]
  unfold a1Z
  rw [e6]
  show SH w K MM ao ad (_::Z5 (V3 pl2.a pl2.n pl2.c) (pl2.at_.map b5L) 3 1::_)
  rw [e2,e3,e4,e5]
  exact af
 have br:=bo.sublist (.cons_cons _ (.cons_cons _ (.cons _ (.cons _ (List.Sublist.refl _)))))
 have hpo3:el3.posts=ps0++[pl2]:=by rw [hel3]
 have bs:SH w K MM ao ad (S6 99 48 3 (some ⟨gE,0,none⟩) l m (pre++el3::post)++[s7 g [V3 A b d,V3 (some ⟨gE,0,none⟩) l m] 30]):=by
  refine br.perm ((List.perm_append_singleton _ _).trans ((List.Perm.cons _ (b5j (TE:=99) (TP:=48) (TI:=3))).trans ?_))
  rw [hpo3]
  exact(List.Perm.append_left [_,_,_] (b31 (TI:=3))).trans (List.Perm.append_right _ (List.perm_append_comm (l₁:=[_,_]) (l₂:=[_,_])))
 have bu:=bs.packUp.perm (List.Perm.swap _ _ _)
 refine b4K (S7 (vs:=[]) results111 trivial ⟨A,b,d,some ⟨gE,0,none⟩,l,m,pre++el3::post,ad,rfl,bu,aK.mono (bl.trans ae),?_,?_⟩)
 ·intro x hx
  rw [hsplit] at hok2
  rcases List.mem_append.1 hx with hx | hx
  ·exact hok2 x (List.mem_append_left _ hx)
  rcases List.mem_cons.1 hx with rfl | hx
  ·rw [hel3,hpl2]
   refine⟨hel2ok.1,hel2ok.2.1,fun q hq=>?_⟩
   rcases List.mem_append.1 hq with hq | hq
   ·exact hel2ok.2.2 q (List.mem_append_left _ hq)
   rcases List.mem_singleton.1 hq with rfl
   have h8:=hel2ok.2.2 pl (List.mem_append_right _ (List.mem_singleton.2 rfl))
   refine⟨h8.1,fun z hz=>?_⟩
   rcases List.mem_append.1 hz with hz | hz
   ·exact h8.2 z hz
   rcases List.mem_singleton.1 hz with rfl
   exact ag
  exact hok2 x (List.mem_append_right _ (List.mem_cons_of_mem _ hx))
 show _=es.set kk.toNat _
 rw [←hes,hsplit,List.map_append,List.map_cons,List.map_append,List.map_cons,List.set_append_right _ _ (by rw [List.length_map,hpre];exact Nat.le_refl _),List.length_map,hpre,Nat.sub_self,List.set_cons_zero]
 have e1:el3.x=C0.mk en.Field en.Term (ps.dropLast++[F7.mk p.Doc (p.At++[q2.At])]):=by
  rw [hel3,hps,hpx,hpl2,←hel]
  simp [L9.x,Y5.x,hf2,ht2]
 rw [e1]

theorem a9B {q0:List Int}{r:Int}(hS:SH w K [] w K [])(k:b7 D6 K A a b q0)(hm:a0L F q0=some r):
  Calls prog 114 #[V3 A a b] w (R_i w K r):=by
 rw [a0L] at hm
 refine ci func114 u ntmps114 (sr (lv (N2 u) (nr (lv (N2 u) (O7 (mv u (lv (q9 underlying46 u k) (lv (r_m u) (nq ?_)))))))))
 obtain⟨s,x,d⟩:=ob hm
 refine l4 (IE s w K [] K [(3,V6 0)] []) ?_ ?_
 ·refine j7 ?_
  obtain⟨aa,y,m⟩:=ob x
  refine qf (fun (o:Nat) (q:Unit)=>IV w K [] K [(3,V6 0),(6,V3 A a b),(7,V6 (q0.length:Int)),(8,V6 ((o:Nat):Int))] []) y ⟨K,u,hS,kr⟩ ?_ ?_
  ·rintro o q _ B ab hi23 C D ⟨f,rfl,c,i⟩
   refine sr (lv (u7 u u) (ns (C9 u (b8 (by omega)) (j3 (l5 (o4 (j7 (sr ?_))))))))
   obtain⟨G,H,I⟩:=ob C
   refine li underlying46 E6 (k.mono i) H fun J O ac R S=>?_
   obtain⟨rfl,T⟩:=R
   have U:F1 _ J O [V6 G]:=S
   refine lv (y9 E6 u c (U 0 _ u)) (av u (nr (mv u (mv u (lv (R2 u u) (nq (D5 I u (fun V l=>?_) (fun V l=>?_))))))))
   ·refine sr (mv u (av u (nq (j9 (i9 (c9 (c9 ?_)))))))
    cases oi l
    cases D _ u
    refine i9 (c9 ?_)
    cases oi m
    refine c9 ?_
    cases oi d
    exact ey results114 ⟨f,u,c,T⟩
   refine j3 (x8 (qg (lv (B6 u u (C6 hi23 (b7.max k))) (mv u (i8 ?_)))))
   cases oi l
   exact qd ⟨_,u,f,u,c,i⟩
  rintro q _ B W ⟨f,rfl,c,i⟩
  subst W
  refine sr (lv (u7 u u) (ns (C8 u (c6 (by omega)) (y4 (g8 (g8 (l6 ?_)))))))
  cases oi m
  exact qd ⟨_,f,u,u,c,i⟩
 rintro _ ad ⟨s8,X,rfl,rfl,Y,af⟩
 have d:=E9 d
 refine qr (mv u (av u (nq (j9 ?_))))
 cases oi d
 exact ey results114 ⟨X,u,Y,I5⟩

theorem a5D {q0:r4}{r:Bool}(hS:SH w K [] w K [])(a:q0.length≤maxLen)(hm:U7 F q0=some r):
  Calls prog 156 #[sv q0] w (R_b w K r):=by
 rw [U7] at hm
 refine ci func156 u ntmps156 (sr (lv (O6 u) (nr (mv u (mv u (lv (a2C u u) (av u (nq (j9 ?_)))))))))
 cases oi hm
 exact ey results156 ⟨K,u,hS⟩

theorem a4H {q0:r4}{q1:r4}{r:Int}(hS:SH w K [] w K [])(m:q0.length≤maxLen)(o:q1.length≤maxLen)(hm:S4 F q0 q1=some r):
  Calls prog 115 #[sv q0,sv q1] w (R_i w K r):=by
 rw [S4] at hm
 refine ci func115 u ntmps115 (sr (lv (N2 u) (nr (mv u ?_))))
 obtain⟨J,q,s⟩:=ob hm
 refine lk c3W (a5D F hS.enter0 m q) ?_
 rintro O R ⟨S,rfl,x⟩
 have l:=(hS.c0 x).t0
 refine av u (nr (mv u ?_))
 obtain⟨T,y,A⟩:=ob s
 refine lk c3W (a5D F l.enter0 o y) ?_
 rintro U V ⟨a,rfl,B⟩
 have b:=(l.c0 B).t0
 refine av u (O7 (mv u (nq (D5 A u (fun C c=>?_) (fun C c=>?_)))))
 ·refine o4 (sr (mv u (nq (D5 c u (fun D d=>?_) (fun D d=>?_)))))
  ·refine sr (lv (N2 u) (nq (rr (c9 ?_))))
   cases oi d
   exact ey results115 ⟨a,u,b,I5⟩
  refine j3 (qr (lv (u9 (v:=V6 (-1)) u) (nq (rr ?_))))
  cases oi d
  exact ey results115 ⟨a,u,b,(by decide :i7 (-1))⟩
 refine j3 (qs (sr (mv u (nq (D5 c u (fun G f=>?_) (fun G f=>?_))))))
 ·refine sr (lv (u9 (v:=V6 1) u) (nq (rr ?_)))
  cases oi f
  exact ey results115 ⟨a,u,b,(by decide :i7 1)⟩
 refine j3 (qs (sr (mv u (mv u (lv (b9A u u) (nq (D5 f u (fun H i=>?_) (fun H i=>?_))))))))
 ·refine sr (lv (u9 (v:=V6 (-1)) u) (nq (rr ?_)))
  cases oi i
  exact ey results115 ⟨a,u,b,(by decide :i7 (-1))⟩
 refine j3 (qs (sr (mv u (mv u (lv (c3w u u) (nq (D5 i u (fun I k=>?_) (fun I k=>?_))))))))
 ·refine sr (lv (u9 (v:=V6 1) u) (nq (rr ?_)))
  cases oi k
  exact ey results115 ⟨a,u,b,(by decide :i7 1)⟩
 refine j3 (qr (lv (N2 u) (nq (j9 ?_))))
 cases oi k
 exact ey results115 ⟨a,u,b,I5⟩

theorem b2w {q0:C0}{q1:C0}{r:Int}(hS:SH w K [] w K [])(H:q0.Field.length≤maxLen)(I:q0.Term.length≤maxLen)(ah:b7 S2 K A a b q0.Posts)(J:q1.Field.length≤maxLen)(O:q1.Term.length≤maxLen)(ai:b7 S2 K B c d q1.Posts)(hm:W3 F q0 q1=some r):
  Calls prog 113 #[.agg #[sv q0.Field,sv q0.Term,V3 A a b],.agg #[sv q1.Field,sv q1.Term,V3 B c d]] w (R_i w K r):=by
 rw [W3] at hm
 refine ci func113 rfl ntmps113 (sr (bx rfl hS fun y aj R=>?_))
 have S:SH _ _ _ _ _ [s7 y [sv q0.Field,sv q0.Term,V3 A a b] 99]:=R
 refine bx rfl S fun C ak T=>?_
 have U:SH _ _ _ _ _ [s7 C [sv q1.Field,sv q1.Term,V3 B c d] 99,_]:=T
 refine lv (N2 rfl) (ns ?_)
 have f:=U.drew
 refine j_0 (fun w'=>H0 K w'∧B0 y [sv q0.Field,sv q0.Term,V3 A a b] w'∧B0 C [sv q1.Field,sv q1.Term,V3 B c d] w') 13 [] mixed ⟨f.hasK kr,f.hasObj m1,f.hasObj m0⟩ (jv 0 rfl (c7 a3z rfl) (jh 1 rfl (fun _ h=>B5 G7 rfl rfl h.2.1) (jv 2 rfl (c7 a3z rfl) (jh 3 rfl (fun _ h=>B5 G7 rfl rfl h.2.2) (jv 5 rfl (c7 a21 rfl) (jh 6 rfl (fun _ h=>B5 G7 rfl rfl h.2.1) (jv 7 rfl (c7 a21 rfl) (jh 8 rfl (fun _ h=>B5 G7 rfl rfl h.2.2) (j1 4 rfl ?_)))))))))
 obtain⟨i,V,W⟩:=ob hm
 refine lk c3O (a4H F f.enter0 H J V) ?_
 rintro al am ⟨an,rfl,k,X⟩
 have l:=(f.c0 k).t2
 refine P0 ⟨l.hasK k.le,l.hasObj m1,l.hasObj m0⟩ (j1 9 rfl ?_)
 obtain⟨m,Y,aa⟩:=ob W
 refine lk c3O (a4H F l.enter0 I O Y) ?_
 rintro ao ap ⟨aq,rfl,q,ab⟩
 have s:=(l.c0 q).t2
 refine P0 ⟨s.hasK (k.le.trans q.le),s.hasObj m1,s.hasObj m0⟩ (j1 10 rfl (J2 (t:=D6) (n:=2) (pv:=[(0,V6 i),(1,V6 m)]) (cs:=[V6 i,V6 m]) (xs:=[i,m]) wn rfl underlying46 E6 rfl rfl rfl (by kernel_rfl) rfl rfl (H5 (u:=V6 i) (z:=i) ⟨rfl,X⟩ (H5 (u:=V6 m) (z:=m) ⟨rfl,ab⟩ a1W)) s fun ar au aw D ac o=>(P0 ⟨o.hasK ((k.le.trans q.le).trans D),o.hasObj m2,o.hasObj m1⟩ (j1 11 rfl ?_))))
 obtain⟨ax,ad,ae⟩:=ob aa
 refine lk c3N (a9B F o.enter0 ac ad) ?_
 rintro ay az ⟨af,rfl,G,ag⟩
 have x:=(o.c0 G).t3
 refine P0 ⟨x.hasK (((k.le.trans q.le).trans D).trans G.le),x.hasObj m2,x.hasObj m1⟩ (jv 12 rfl (u9 rfl) (jd (l5 (j9 ?_))))
 cases oi ae
 exact ey results113 ⟨af,rfl,x.s,ag⟩

theorem a9o {q0:List Int}{q1:List Int}{r:Bool}(hS:SH w K [] w K [])(i:b7 D6 K A a b q0)(s:b7 D6 K B c d q1)(hm:a0l F q0 q1=some r):
  Calls prog 157 #[V3 A a b,V3 B c d] w (R_b w K r):=by
 rw [a0l] at hm
 refine ci func157 u ntmps157 (sr (lv (O6 u) (O7 (mv u (lv (q9 underlying46 u i) (mv u (lv (q9 underlying46 u s) (lv (R2 u u) (nq ?_)))))))))
 refine R9 u (fun l=>?_) (fun l=>?_)
 ·have m:=a1a l hm
  refine sr (lv (O6 u) (nq (rr ?_)))
  cases oi m
  exact ey results157 ⟨K,u,hS⟩
 have m:=a09 l hm
 refine j3 (qs (sr (mv u (lv (q9 underlying46 u i) (lv (r_m u) (nq ?_))))))
 obtain⟨I,J,k⟩:=ob m
 refine l4 (IE I w K [] K [] []) ?_ ?_
 ·refine j7 ?_
  obtain⟨aq,O,x⟩:=ob J
  refine qf (fun (y:Nat) (C:Unit)=>IV w K [] K [(0,V3 A a b),(1,V3 B c d),(12,V6 (q0.length:Int)),(13,V6 ((y:Nat):Int))] []) O ⟨K,u,hS,kr⟩ ?_ ?_
  ·rintro y C _ R ar hi29 S T ⟨D,rfl,o,f⟩
   refine sr (lv (u7 u u) (ns (C9 u (b8 (by omega)) (j3 (l5 (o4 (j7 (sr (mv u (av u (ns (D4 mixed (by kernel_rfl) o ?_))))))))))))
   refine km u (km u ?_)
   obtain⟨U,V,W⟩:=ob S
   refine ki underlying46 E6 (i.mono f) V fun X Y au aa ab=>?_
   obtain⟨rfl,aw⟩:=aa
   have ac:F1 _ X Y [V6 U]:=ab
   refine kh (C1 E6 u (ac 0 _ u)) (km u (km u ?_))
   obtain⟨ad,ae,af⟩:=ob W
   refine ki underlying46 E6 (s.mono f) ae fun ag ah ax ai aj=>?_
   obtain⟨rfl,ay⟩:=ai
   have ak:F1 _ ag ah [V6 ad]:=aj
   refine kh (C1 E6 u (ak 0 _ u)) (kv (R2 u u) (B4 ?_))
   rintro az ⟨G,H,al⟩
   refine l5 (D5 af u (fun am q=>?_) (fun am q=>?_))
   ·refine sr (lv (O6 u) (nq (j9 (i9 (c9 (c9 ?_))))))
    cases oi q
    cases T _ u
    refine i9 (c9 ?_)
    cases oi x
    refine c9 ?_
    cases oi k
    exact ey results157 ⟨G,u,H⟩
   refine j3 (x8 (qg (lv (B6 u u (C6 hi29 (b7.max i))) (mv u (i8 ?_)))))
   cases oi q
   exact qd ⟨_,u,G,u,H,(f.trans al)⟩
  rintro C _ R an ⟨D,rfl,o,f⟩
  subst an
  refine sr (lv (u7 u u) (ns (C8 u (c6 (by omega)) (y4 (g8 (g8 (l6 ?_)))))))
  cases oi x
  exact L6 ⟨_,D,u,u,o,f⟩ trivial
 rintro _ aA ⟨aB,ao,rfl,rfl,ap,aC⟩
 have k:=E9 k
 refine qr (lv (r_t u) (nq (j9 ?_)))
 cases oi k
 exact ey results157 ⟨ao,u,ap⟩

theorem b1z {q0:F7}{q1:F7}{r:Bool}(hS:SH w K [] w K [])(J:i7 q0.Doc)(l:b7 D6 K A a b q0.At)(O:i7 q1.Doc)(m:b7 D6 K B c d q1.At)(hm:a15 F q0 q1=some r):
  Calls prog 117 #[.agg #[V6 q0.Doc,V3 A a b],.agg #[V6 q1.Doc,V3 B c d]] w (R_b w K r):=by
 rw [a15] at hm
 refine ci func117 u ntmps117 (sr (bx u hS fun o R q=>?_))
 have s:SH _ _ _ _ _ [s7 o [V6 q0.Doc,V3 A a b] 48]:=q
 refine bx u s fun x S y=>?_
 have i:SH _ _ _ _ _ [s7 x [V6 q1.Doc,V3 B c d] 48,_]:=y
 refine lv (O6 u) (nr (fl a5U u E6 m1 i u (fl a5U u E6 m0 i u (lv (A9 u u) (mv u (bt hm (fun f k=>?_) (fun f k=>?_)))))))
 ·refine lg f (c7 a4M u) (lg f (w8 a1g u m1 i u) (lg f (c7 a4M u) (lg f (w8 a1g u m0 i u) ?_)))
  obtain⟨T,C,D⟩:=ob k
  refine A3 (wg u u f) u (A2 (vs:=[V3 A a b,V3 B c d]) c5V u) (a9o F i.enter0 l m C) ?_
  rintro U V ⟨G,rfl,H⟩
  refine⟨_,u,?_⟩
  have I:=(i.c0 H).t2
  refine lv (n9 u f u) (av u (nq (j9 ?_)))
  cases oi D
  exact ey results117 ⟨G,u,I.s⟩
 iterate 5 refine lu f ?_
 refine lv (L8 u f u) (av u (nq (j9 ?_)))
 cases oi k
 exact ey results117 ⟨K,u,i.s⟩

theorem a2F {q0:List F7}{q1:List F7}{r:Bool}(hS:SH w K [] w K [])(i:b7 S2 K A a b q0)(O:b7 S2 K B c d q1)(hm:H3 F q0 q1=some r):
  Calls prog 116 #[V3 A a b,V3 B c d,.func (.func 117) #[] #[]] w (R_b w K r):=by
 rw [H3] at hm
 refine ci func116 u ntmps116 (sr (lv (O6 u) (O7 (mv u (lv (q9 underlying37 u i) (mv u (lv (q9 underlying37 u O) (lv (R2 u u) (nq ?_)))))))))
 refine R9 u (fun H=>?_) (fun H=>?_)
 ·have I:=a1a H hm
  refine sr (lv (O6 u) (nq (rr ?_)))
  cases oi I
  exact ey results116 ⟨K,u,hS⟩
 have I:=a09 H hm
 refine j3 (qs (sr (mv u (lv (q9 underlying37 u i) (lv (r_m u) (nq ?_))))))
 obtain⟨aa,ab,k⟩:=ob I
 refine l4 (IE aa w K [] K [] []) ?_ ?_
 ·refine j7 ?_
  obtain⟨aO,ac,R⟩:=ob ab
  refine qf (fun (S:Nat) (T:Unit)=>IV w K [] K [(1,V3 B c d),(2,.func (.func 117) #[] #[]),(15,V3 A a b),(16,V6 (q0.length:Int)),(17,V6 ((S:Nat):Int))] []) ac ⟨K,u,hS,kr⟩ ?_ ?_
  ·rintro S T _ ad aP hi29 ae af ⟨U,rfl,l,f⟩
   refine sr (lv (u7 u u) (ns (C9 u (b8 (by omega)) (j3 (l5 (o4 (j7 (sr (mv u ?_)))))))))
   obtain⟨m,ag,ah⟩:=ob ae
   refine li underlying37 a02 (i.mono f) ag fun ai aj aQ ak am=>?_
   obtain⟨o,q,s,rfl,an,ao⟩:=ak
   have ap:F1 _ ai aj [V6 m.Doc,V3 o q s]:=am
   refine lv (F3 a02 u l ap u) (al a02 l fun aq aR ar=>?_)
   have au:SH _ _ _ _ _ [s7 aq [V6 0,V3 none 0 0] 48]:=ar
   refine av u (lw [V6 m.Doc,V3 o q s] a02 au fun aS V=>(nr (mv u (mv u ?_))))
   obtain⟨x,aw,ax⟩:=ob ah
   refine li underlying37 a02 (O.mono f) aw fun ay az aT aA aB=>?_
   obtain⟨y,C,D,rfl,aC,aD⟩:=aA
   have aE:F1 _ ay az [V6 x.Doc,V3 y C D]:=aB
   refine lv (F3 a02 u V aE u) (al a02 V fun aF aU aG=>?_)
   have aH:SH _ _ _ _ _ [s7 aF [V6 0,V3 none 0 0] 48,_]:=aG
   refine lw [V6 x.Doc,V3 y C D] a02 aH fun aV G=>(nr (mv u (lv (j6 (ds:=[V6 m.Doc,V3 o q s]) a02 u m1 G u u) (lv (j6 (ds:=[V6 x.Doc,V3 y C D]) a02 u m0 G u u) ?_))))
   obtain⟨aW,aI,aJ⟩:=ob ax
   refine A3 wn u (b0W (vs:=[.agg #[V6 m.Doc,V3 o q s],.agg #[V6 x.Doc,V3 y C D]]) (cap:=#[]) c5z u u) (b1z F G.enter0 an ao aC aD aI) ?_
   rintro aX aY ⟨W,rfl,X⟩
   refine⟨_,u,?_⟩
   have Y:=(G.c0 X).t2
   refine lv (A4 u) (nq (D5 aJ u (fun aK J=>?_) (fun aK J=>?_)))
   ·refine sr (lv (O6 u) (nq (j9 (i9 (c9 (c9 ?_))))))
    cases oi J
    cases af _ u
    refine i9 (c9 ?_)
    cases oi R
    refine c9 ?_
    cases oi k
    exact ey results116 ⟨W,u,Y.s⟩
   refine j3 (x8 (qg (lv (B6 u u (C6 hi29 (b7.max i))) (mv u (i8 ?_)))))
   cases oi J
   exact qd ⟨_,u,W,u,Y.s,(f.trans X.le)⟩
  rintro T _ ad aL ⟨U,rfl,l,f⟩
  subst aL
  refine sr (lv (u7 u u) (ns (C8 u (c6 (by omega)) (y4 (g8 (g8 (l6 ?_)))))))
  cases oi R
  exact L6 ⟨_,U,u,u,l,f⟩ trivial
 rintro _ aZ ⟨ba,aM,rfl,rfl,aN,bb⟩
 have k:=E9 k
 refine qr (lv (r_t u) (nq (j9 ?_)))
 cases oi k
 exact ey results116 ⟨aM,u,aN⟩

theorem b0I {q0:C0}{q1:C0}{r:Bool}(hS:SH w K [] w K [])(R:q0.Field.length≤maxLen)(S:q0.Term.length≤maxLen)(o:b7 S2 K A a b q0.Posts)(T:q1.Field.length≤maxLen)(U:q1.Term.length≤maxLen)(q:b7 S2 K B c d q1.Posts)(hm:a1m F q0 q1=some r):
  Calls prog 63 #[.agg #[sv q0.Field,sv q0.Term,V3 A a b],.agg #[sv q1.Field,sv q1.Term,V3 B c d]] w (R_b w K r):=by
 rw [a1m] at hm
 refine ci func63 u ntmps63 (sr (bx u hS fun s V x=>?_))
 have y:SH _ _ _ _ _ [s7 s [sv q0.Field,sv q0.Term,V3 A a b] 99]:=x
 refine bx u y fun C W D=>?_
 have f:SH _ _ _ _ _ [s7 C [sv q1.Field,sv q1.Term,V3 B c d] 99,_]:=D
 refine lv (O6 u) (nr (fl a3z u G7 m1 f u (fl a3z u G7 m0 f u (lv (J8 u u) (mv u (bt hm (fun i l=>?_) (fun i l=>?_)))))))
 ·refine lg i (c7 a21 u) (lg i (w8 G7 u m1 f u) (lg i (c7 a21 u) (lg i (w8 G7 u m0 f u) (lg i (J8 u u) (lv (n9 u i u) (mv u (bt l (fun k m=>?_) (fun k m=>?_))))))))
  ·refine lg k (c7 Y0 u) (lg k (w8 a5B u m1 f u) (lg k (c7 Y0 u) (lg k (w8 a5B u m0 f u) ?_)))
   obtain⟨X,G,H⟩:=ob m
   refine A3 (wg u u k) u (A2 (vs:=[V3 A a b,V3 B c d,.func (.func 117) #[] #[]]) c5y u) (a2F F f.enter0 o q G) ?_
   rintro Y aa ⟨I,rfl,J⟩
   refine⟨_,u,?_⟩
   have O:=(f.c0 J).t2
   refine lv (n9 u k u) (av u (nq (j9 ?_)))
   cases oi H
   exact ey results63 ⟨I,u,O.s⟩
  iterate 5 refine lu k ?_
  refine lv (L8 u k u) (av u (nq (j9 ?_)))
  cases oi m
  exact ey results63 ⟨K,u,f.s⟩
 iterate 5 refine lu i ?_
 refine lv (L8 u i u) (mv u ?_)
 iterate 5 refine lu u ?_
 refine lv (L8 u u u) (av u (nq (j9 ?_)))
 cases oi l
 exact ey results63 ⟨K,u,f.s⟩

theorem a90 {q0:List Int}{q1:List Int}{r:Bool}(hS:SH w K [] w K [])(k:b7 D6 K A a b q0)(x:b7 D6 K B c d q1)(hm:X5 F q0 q1=some r):
  Calls prog 164 #[V3 A a b,V3 B c d] w (R_b w K r):=by
 rw [X5] at hm
 refine ci func164 u ntmps164 (sr (lv (O6 u) (O7 (mv u (lv (q9 underlying46 u k) (mv u (lv (q9 underlying46 u x) (lv (R2 u u) (nq ?_)))))))))
 refine R9 u (fun l=>?_) (fun l=>?_)
 ·have m:=a1a l hm
  refine sr (lv (O6 u) (nq (rr ?_)))
  cases oi m
  exact ey results164 ⟨K,u,hS⟩
 have m:=a09 l hm
 refine j3 (qs (sr (lv (N2 u) (nq ?_))))
 obtain⟨I,J,i⟩:=ob m
 refine l4 (IE I w K [] K [] []) ?_ ?_
 ·refine j7 ?_
  obtain⟨ap,O,y⟩:=ob J
  refine qw (fun (o:Int)=>IW w K [] K [(0,V3 A a b),(1,V3 B c d),(5,V6 o)] [] (i7 o)) O ⟨K,u,hS,kr,I5⟩ ?_
  rintro o _ aq ar R C ⟨S,rfl,D,f,au⟩
  refine o4 (sr (mv u (mv u (lv (q9 underlying46 u (k.mono f)) (lv (u7 u u) (nq (D5 R u (fun T q=>?_) (fun T q=>?_))))))))
  ·refine j3 (qs (j7 (o4 (D4 mixed (by kernel_rfl) D (km u (km u ?_))))))
   obtain⟨U,V,W⟩:=ob q
   refine ki underlying46 E6 (k.mono f) V fun X Y aw aa ab=>?_
   obtain⟨rfl,ax⟩:=aa
   have ac:F1 _ X Y [V6 U]:=ab
   refine kh (C1 E6 u (ac 0 _ u)) (km u (km u ?_))
   obtain⟨ad,ae,af⟩:=ob W
   refine ki underlying46 E6 (x.mono f) ae fun ag ah ay ai aj=>?_
   obtain⟨rfl,az⟩:=ai
   have ak:F1 _ ag ah [V6 ad]:=aj
   refine kh (C1 E6 u (ak 0 _ u)) (kv (R2 u u) (B4 ?_))
   rintro aA ⟨G,H,al⟩
   refine l5 (D5 af u (fun am s=>?_) (fun am s=>?_))
   ·refine sr (lv (O6 u) (nq (j9 (i9 (c9 (c9 ?_))))))
    cases oi s
    cases C _ u
    refine i9 (c9 ?_)
    cases oi y
    refine c9 ?_
    cases oi i
    exact ey results164 ⟨G,u,H⟩
   refine j3 (x8 (l5 (j5 (mv u (lv (y7 u u) (av u (i8 ?_)))))))
   cases oi s
   exact qd ⟨_,u,G,u,H,(f.trans al),(u0 _)⟩
  refine y4 (g8 (g8 ?_))
  cases oi q
  cases C _ u
  refine l6 ?_
  cases oi y
  exact L6 ⟨_,S,u,u,D,f⟩ trivial
 rintro _ aB ⟨aC,an,rfl,rfl,ao,aD⟩
 have i:=E9 i
 refine qr (lv (r_t u) (nq (j9 ?_)))
 cases oi i
 exact ey results164 ⟨an,u,ao⟩

theorem a9u {q0:C0}{q1:C0}{r:Bool}(hS:SH w K [] w K [])(bF:q0.Field.length≤maxLen)(bG:q0.Term.length≤maxLen)(x:b7 S2 K A a b q0.Posts)(bH:q1.Field.length≤maxLen)(bI:q1.Term.length≤maxLen)(G:b7 S2 K B c d q1.Posts)(hm:a0r F q0 q1=some r):
  Calls prog 121 #[.agg #[sv q0.Field,sv q0.Term,V3 A a b],.agg #[sv q1.Field,sv q1.Term,V3 B c d]] w (R_b w K r):=by
 rw [a0r] at hm
 refine ci func121 u ntmps121 (sr (bx u hS fun m bJ ac=>?_))
 have ad:SH _ _ _ _ _ [s7 m [sv q0.Field,sv q0.Term,V3 A a b] 99]:=ac
 refine bx u ad fun o bK ae=>?_
 have k:SH _ _ _ _ _ [s7 o [sv q1.Field,sv q1.Term,V3 B c d] 99,_]:=ae
 refine lv (O6 u) (ns (o4 ?_))
 obtain⟨af,ag,ah⟩:=ob hm
 refine l4 (IV w K [] K [(2,pt m),(3,pt o),(26,.bool af)] [s7 m [sv q0.Field,sv q0.Term,V3 A a b] 99,s7 o [sv q1.Field,sv q1.Term,V3 B c d] 99]) ?_ ?_
 ·refine j5 (fl a3z u G7 m1 k u (fl a3z u G7 m0 k u (lv (a2C u u) (mv u (bt ag (fun l H=>?_) (fun l H=>?_))))))
  ·iterate 5 refine lu l ?_
   refine lv (J6 u l u) (mv u ?_)
   iterate 7 refine lu u ?_
   refine lv (J6 u u u) (i8 ?_)
   cases oi H
   exact qd ⟨K,u,k.f1,kr⟩
  refine lg l (c7 a21 u) (lg l (w8 G7 u m1 k u) (lg l (c7 a21 u) (lg l (w8 G7 u m0 k u) (lg l (a2C u u) (lv (l9 u l u) (mv u (bt H (fun i I=>?_) (fun i I=>?_))))))))
  ·iterate 7 refine lu i ?_
   refine lv (J6 u i u) (i8 ?_)
   cases oi I
   exact qd ⟨K,u,k.f1,kr⟩
  refine lg i (c7 Y0 u) (lg i (w8 a5B u m1 k u) (lg i (q9 underlying37 u x) (lg i (c7 Y0 u) (lg i (w8 a5B u m0 k u) (lg i (q9 underlying37 u G) (lg i (R2 u u) (lv (l9 u i u) (i8 ?_))))))))
  cases oi I
  exact qd ⟨K,u,k.f1,kr⟩
 rintro _ bL ⟨y,rfl,U,s⟩
 refine l5 (D5 ah u (fun ai J=>?_) (fun ai J=>?_))
 ·refine sr (lv (O6 u) (nq (rr ?_)))
  cases oi J
  exact ey results121 ⟨y,u,U.s⟩
 refine j3 (qs (sr (lv (N2 u) (nq ?_))))
 obtain⟨aj,ak,C⟩:=ob J
 refine l4 (IE aj w K [] y [] []) ?_ ?_
 ·refine j7 ?_
  obtain⟨bM,al,V⟩:=ob ak
  refine qw (fun (D:Int)=>IW w K [] y [(2,pt m),(3,pt o),(5,V6 D)] [s7 m [sv q0.Field,sv q0.Term,V3 A a b] 99,s7 o [sv q1.Field,sv q1.Term,V3 B c d] 99] (i7 D)) al ⟨y,u,U,kr,I5⟩ ?_
  rintro D _ bN bO am W ⟨X,rfl,O,q,bP⟩
  refine o4 (sr (mv u (fl Y0 u a5B m0 O u (lv (q9 underlying37 u (x.mono (s.trans q))) (lv (u7 u u) (nq (D5 am u (fun an R=>?_) (fun an R=>?_))))))))
  ·refine j3 (qs (j7 (o4 ?_)))
   obtain⟨ao,ap,aq⟩:=ob R
   refine l4 (IV w K [] X [(2,pt m),(3,pt o),(5,V6 D),(62,.bool ao)] [s7 m [sv q0.Field,sv q0.Term,V3 A a b] 99,s7 o [sv q1.Field,sv q1.Term,V3 B c d] 99]) ?_ ?_
   ·refine D4 mixed (by kernel_rfl) O (kv (c7 Y0 u) (kh (z6 a5B u m0 u) (km u ?_)))
    obtain⟨ar,au,aw⟩:=ob ap
    refine ki underlying37 a02 (x.mono (s.trans q)) au fun ax ay bQ az aA=>?_
    obtain⟨aB,aC,aD,rfl,bR,bS⟩:=az
    have aE:F1 _ ax ay [V6 ar.Doc,V3 aB aC aD]:=aA
    refine kv (c7 a5U u) (kh (C1 E6 u (aE 0 _ u)) (kv (c7 Y0 u) (kh (z6 a5B u m1 u) (km u ?_))))
    obtain⟨aF,aG,aH⟩:=ob aw
    refine ki underlying37 a02 (G.mono (s.trans q)) aG fun aI aJ bT aK aL=>?_
    obtain⟨aM,aN,aO,rfl,bU,bV⟩:=aK
    have aP:F1 _ aI aJ [V6 aF.Doc,V3 aM aN aO]:=aL
    refine kv (c7 a5U u) (kh (C1 E6 u (aP 0 _ u)) (kv (R2 u u) (km u (bt aH (fun f S=>?_) (fun f S=>?_)))))
    ·iterate 14 refine kn f ?_
     refine kv (J6 u f u) (B4 ?_)
     rintro bW ⟨aQ,aR,aS⟩
     cases oi S
     exact qd ⟨aQ,u,aR,aS⟩
    refine kg f (c7 Y0 u) (kgh f (z6 a5B u m0 u) (kg f (i5 u) ?_))
    obtain⟨aT,aU,aV⟩:=ob S
    refine C7 (t:=S2) (wg u u f) u underlying37 a02 u u (x.mono (s.trans q)) aU fun aW aX bX aY aZ=>?_
    obtain⟨ba,bb,bc,rfl,bY,bd⟩:=aY
    have be:F1 _ aW aX [V6 aT.Doc,V3 ba bb bc]:=aZ
    refine kg f (c7 a4M u) (kgh f (C1 a1g u (be 1 _ u)) (kg f (c7 Y0 u) (kgh f (z6 a5B u m1 u) (kg f (i5 u) ?_))))
    obtain⟨bf,bg,bh⟩:=ob aV
    refine C7 (t:=S2) (wg u u f) u underlying37 a02 u u (G.mono (s.trans q)) bg fun bi bj bZ bk bl=>?_
    obtain⟨bm,bn,bo,rfl,ca,bp⟩:=bk
    have bq:F1 _ bi bj [V6 bf.Doc,V3 bm bn bo]:=bl
    refine kg f (c7 a4M u) (kgh f (C1 a1g u (bq 1 _ u)) ?_)
    obtain⟨cb,br,bs⟩:=ob bh
    refine kcg f c51 (fun _ _ bu Y=>(a90 F) bu.enter0 (bd.mono Y) (bp.mono Y) br) (kg f (A4 u) (kv (l9 u f u) (B4 ?_)))
    rintro cc ⟨bv,bz,bA⟩
    cases oi bs
    exact qd ⟨bv,u,bz,bA⟩
   rintro _ cd ⟨aa,rfl,ab,bB⟩
   refine l5 (D5 aq u (fun bC T=>?_) (fun bC T=>?_))
   ·refine sr (lv (O6 u) (nq (j9 (i9 (c9 (c9 ?_))))))
    cases oi T
    cases W _ u
    refine i9 (c9 ?_)
    cases oi V
    refine c9 ?_
    cases oi C
    exact ey results121 ⟨aa,u,ab.s⟩
   refine j3 (x8 (l5 (j5 (mv u (lv (y7 u u) (av u (i8 ?_)))))))
   cases oi T
   exact qd ⟨_,u,aa,u,ab,(q.trans bB),(u0 _)⟩
  refine y4 (g8 (g8 ?_))
  cases oi R
  cases W _ u
  refine l6 ?_
  cases oi V
  exact L6 ⟨_,X,u,u,O.s,q⟩ trivial
 rintro _ ce ⟨cf,bD,rfl,rfl,bE,cg⟩
 have C:=E9 C
 refine qr (lv (r_t u) (nq (j9 ?_)))
 cases oi C
 exact ey results121 ⟨bD,u,bE⟩

theorem a5J {q0:T0}{q1:Int}{r:A1×Bool}(hS:SH w K Z w K [s7 g1 [V3 A a b,V3 B c d,V3 C f i,V3 D k l] 113])(aU:b7 D9 K A a b q0.c_.Stops)(aV:b7 L0 K B c d q0.c_.Syns)(ad:b7 F6 K C f i q0.s_.Docs)(aW:b7 B8 K D k l q0.s_.Entries)(aX:i7 q1)(hm:T1 F q0 q1=some r):
  Calls prog 69 #[.pointer (some ⟨g1,2,none⟩),V6 q1] w fun e w'=>∃a_2 n_3 c_4 a_6 n_7 c_8 K',e= .returned (.tuple #[.agg #[V6 r.1.Id,V3 a_2 n_3 c_4,V3 a_6 n_7 c_8],.bool r.2])∧SH w K Z w' K' [s7 g1 [V3 A a b,V3 B c d,V3 C f i,V3 D k l] 113]∧i7 r.1.Id∧b7 K5 K' a_2 n_3 c_4 r.1.Fields∧b7 N0 K' a_6 n_7 c_8 r.1.Nums:=by
 rw [T1] at hm
 refine ci func69 u ntmps69 (sr (al E8 hS fun W aY ax=>?_))
 have ap:SH _ _ _ _ _ [s7 W [V6 0,V3 none 0 0,V3 none 0 0] 44,_]:=ax
 refine lv (O6 u) (O7 (mv u (lv (B7 u) (fl L3 u a1b m1 ap u (lv (q9 underlying27 u ad) (lv (r_m u) (nq ?_)))))))
 obtain⟨ay,az,Y⟩:=ob hm
 refine l4 (fun E' w'=>∃o ae af ag ah ai aj q,ay= .inl o∧E'=[(0,.pointer (some ⟨g1,2,none⟩)),(4,pt W)]∧SH w K Z w' q [s7 g1 [V3 A a b,V3 B c d,V3 C f i,V3 D k l] 113,s7 W [V6 o.Id,V3 ae af ag,V3 ah ai aj] 44]∧M0 K q∧i7 o.Id∧b7 K5 q ae af ag o.Fields∧b7 N0 q ah ai aj o.Nums) ?_ ?_
 ·refine j7 ?_
  obtain⟨aZ,aA,aq⟩:=ob az
  refine qf (fun (ar:Nat) (s:A1) E' w'=>∃x y G H I J m,E'=[(0,.pointer (some ⟨g1,2,none⟩)),(1,V6 q1),(4,pt W),(11,V3 C f i),(12,V6 (q0.s_.Docs.length:Int)),(13,V6 ((ar:Nat):Int))]∧SH w K Z w' m [s7 g1 [V3 A a b,V3 B c d,V3 C f i,V3 D k l] 113,s7 W [V6 s.Id,V3 x y G,V3 H I J] 44]∧M0 K m∧i7 s.Id∧b7 K5 m x y G s.Fields∧b7 N0 m H I J s.Nums) aA ⟨none,0,0,none,0,0,K,u,ap.f1,kr,I5,(b7.nil _ _),(b7.nil _ _)⟩ ?_ ?_
  ·rintro ar s _ aB ba hi60 aC aD ⟨x,y,G,H,I,J,m,rfl,aa,ab,ak,am,an⟩
   refine sr (lv (u7 u u) (ns (C9 u (b8 (by omega)) (j3 (l5 (o4 (j7 (sr ?_))))))))
   obtain⟨X,aE,aF⟩:=ob aC
   refine li underlying27 E8 (ad.mono ab) aE fun aG aH bb aI aJ=>?_
   obtain⟨O,R,S,T,U,V,rfl,aK,aL,aM⟩:=aI
   have aN:F1 _ aG aH [V6 X.Id,V3 O R S,V3 T U V]:=aJ
   refine lv (F3 E8 u aa aN u) (al E8 aa fun aO bc aP=>?_)
   have aQ:SH _ _ _ _ _ [s7 aO [V6 0,V3 none 0 0,V3 none 0 0] 44,_,_]:=aP
   refine lw [V6 X.Id,V3 O R S,V3 T U V] E8 aQ fun bd ac=>(nr (fl P6 u E6 m0 ac u (mv u (lv (A9 u u) (nq (D5 aF u (fun aR ao=>?_) (fun aR ao=>?_)))))))
   ·refine sr (lv (j6 (ds:=[V6 X.Id,V3 O R S,V3 T U V]) E8 u m0 ac u u) (lw [V6 X.Id,V3 O R S,V3 T U V] E8 ac.f2 fun be au=>(lv (r_t u) (nq (j9 (i9 (c9 (c9 ?_))))))))
    cases oi ao
    cases aD _ u
    refine i9 (c9 ?_)
    cases oi aq
    refine c9 ?_
    cases oi Y
    exact S7 (vs:=[_,_]) results69 ⟨⟨_,_,u,B2 E8 (cs:=[V6 X.Id,V3 O R S,V3 T U V]) (fun j c e=>by rw [Nat.zero_add,au.mem_obj m0];exact e) (.inl ⟨u,u,u⟩)⟩,u,trivial⟩ ⟨O,R,S,T,U,V,m,u,au.s,aK,aL,aM⟩
   refine j3 (x8 (qg (lv (B6 u u (C6 hi60 (b7.max ad))) (mv u (i8 ?_)))))
   cases oi ao
   exact qd ⟨_,u,x,y,G,H,I,J,m,u,ac.s,ab,ak,am,an⟩
  rintro s _ aB aS ⟨x,y,G,H,I,J,m,rfl,aa,ab,ak,am,an⟩
  subst aS
  refine sr (lv (u7 u u) (ns (C8 u (c6 (by omega)) (y4 (g8 (g8 (l6 ?_)))))))
  cases oi aq
  exact qd ⟨_,x,y,G,H,I,J,m,u,u,aa,ab,ak,am,an⟩
 rintro _ bf ⟨o,ae,af,ag,ah,ai,aj,q,rfl,rfl,aT,bg,bh,bi,bj⟩
 have Y:=E9 Y
 refine qr (lv (C3 (cs:=#[V6 0,V3 none 0 0,V3 none 0 0]) b4M E8 u (by kernel_rfl)) (lw [V6 0,V3 none 0 0,V3 none 0 0] E8 aT.f1 fun bk aw=>(lv (O6 u) (nq (j9 ?_)))))
 cases oi Y
 exact S7 (vs:=[_,_]) results69 ⟨⟨_,_,u,B2 E8 (cs:=[V6 0,V3 none 0 0,V3 none 0 0]) (fun j c e=>by rw [Nat.zero_add,aw.mem_obj m0];exact e) (.inl ⟨u,u,u⟩)⟩,u,trivial⟩ ⟨none,0,0,none,0,0,q,u,aw.s,I5,(b7.nil _ _),(b7.nil _ _)⟩

theorem a8y {q0:A5}{q1:Int}{r:A1}(hS:SH w K [] w K [])(I:b7 F6 K A a b q0.Docs)(ba:b7 B8 K B c d q0.Entries)(bb:i7 q1)(hm:a2q F q0 q1=some r):
  Calls prog 72 #[.agg #[V3 A a b,V3 B c d],V6 q1] w fun e w'=>∃a_2 n_3 c_4 a_6 n_7 c_8 K',e= .returned (.agg #[V6 r.Id,V3 a_2 n_3 c_4,V3 a_6 n_7 c_8])∧SH w K [] w' K' []∧i7 r.Id∧b7 K5 K' a_2 n_3 c_4 r.Fields∧b7 N0 K' a_6 n_7 c_8 r.Nums:=by
 rw [a2q] at hm
 refine ci func72 u ntmps72 (sr (bx u hS fun J bc ao=>?_))
 have ap:SH _ _ _ _ _ [s7 J [V3 A a b,V3 B c d] 30]:=ao
 refine al E8 ap fun o bd aq=>?_
 have ar:SH _ _ _ _ _ [s7 o [V6 0,V3 none 0 0,V3 none 0 0] 44,_]:=aq
 refine O7 (lv (N2 u) (nq ?_))
 obtain⟨au,aw,H⟩:=ob hm
 refine l4 (fun E' w'=>∃l O R S T U V m,au= .inl l∧E'=[(4,pt o)]∧SH w K [] w' m [s7 o [V6 l.Id,V3 O R S,V3 T U V] 44]∧M0 K m∧i7 l.Id∧b7 K5 m O R S l.Fields∧b7 N0 m T U V l.Nums) ?_ ?_
 ·refine j7 ?_
  obtain⟨be,ax,af⟩:=ob aw
  refine qw (fun (k:Int×A1) E' w'=>∃q s x y C D f,E'=[(1,V6 q1),(2,pt J),(4,pt o),(5,V6 k.1)]∧SH w K [] w' f [s7 J [V3 A a b,V3 B c d] 30,s7 o [V6 k.2.Id,V3 q s x,V3 y C D] 44]∧M0 K f∧i7 k.1∧i7 k.2.Id∧b7 K5 f q s x k.2.Fields∧b7 N0 f y C D k.2.Nums) ax ⟨none,0,0,none,0,0,K,u,ar.f1,kr,I5,I5,(b7.nil _ _),(b7.nil _ _)⟩ ?_
  rintro k _ bf bg ay ag ⟨q,s,x,y,C,D,f,rfl,i,G,bh,ah,ai,aj⟩
  refine o4 (sr (mv u (fl L3 u a1b m0 i u (lv (q9 underlying27 u (I.mono G)) (lv (u7 u u) (nq (D5 ay u (fun az W=>?_) (fun az W=>?_))))))))
  ·refine j3 (qs (j7 (sr (fl L3 u a1b m0 i u (mv u ?_)))))
   obtain⟨aA,aB,aC⟩:=ob W
   refine li underlying27 E8 (I.mono G) aB fun aD aE bi aF aG=>?_
   obtain⟨aH,aI,aJ,aK,aL,aM,rfl,bj,bk,bl⟩:=aF
   have aN:F1 _ aD aE [V6 aA.Id,V3 aH aI aJ,V3 aK aL aM]:=aG
   refine fa P6 u (lv (y9 E6 u i (aN 0 _ u)) (mv u (lv (A9 u u) (nq (D5 aC u (fun aO X=>?_) (fun aO X=>?_))))))
   ·refine sr (fl L3 u a1b m0 i u (mv u ?_))
    obtain⟨ak,aP,aQ⟩:=ob X
    refine li underlying27 E8 (I.mono G) aP fun aR aS bm aT aU=>?_
    obtain⟨Y,aa,ab,ac,ad,ae,rfl,aV,aW,aX⟩:=aT
    have aY:F1 _ aR aS [V6 ak.Id,V3 Y aa ab,V3 ac ad ae]:=aU
    refine lv (F3 E8 u i aY u) (lw [V6 ak.Id,V3 Y aa ab,V3 ac ad ae] E8 i.f1 fun bn am=>(nq (j9 (i9 (c9 (c9 ?_))))))
    cases oi aQ
    cases ag _ u
    refine i9 (c9 ?_)
    cases oi af
    refine c9 ?_
    cases oi H
    exact ez results72 E8 am m0 ⟨Y,aa,ab,ac,ad,ae,f,u,am.s,aV,aW,aX⟩
   refine j3 (x8 (l5 (j5 (mv u (lv (y7 u u) (av u (i8 ?_)))))))
   cases oi X
   exact qd ⟨_,u,q,s,x,y,C,D,f,u,i,G,(u0 _),ah,ai,aj⟩
  refine y4 (g8 (g8 ?_))
  cases oi W
  cases ag _ u
  refine l6 ?_
  cases oi af
  exact qd ⟨_,q,s,x,y,C,D,f,u,u,i.s,G,ah,ai,aj⟩
 rintro _ bo ⟨l,O,R,S,T,U,V,m,rfl,rfl,aZ,bp,bq,br,bs⟩
 have H:=E9 H
 refine qr (lv (C3 (cs:=#[V6 0,V3 none 0 0,V3 none 0 0]) b4M E8 u (by kernel_rfl)) (lw [V6 0,V3 none 0 0,V3 none 0 0] E8 aZ fun bu an=>(nq (j9 ?_))))
 cases oi H
 exact ez results72 E8 an m0 ⟨none,0,0,none,0,0,m,u,an.s,I5,(b7.nil _ _),(b7.nil _ _)⟩

theorem a7K {q0:Bool}{r:Int}(hS:SH w K [] w K [])(hm:a1p F q0=some r):
  Calls prog 133 #[.bool q0] w (R_i w K r):=by
 rw [a1p] at hm
 refine ci func133 u ntmps133 (sr (lv (N2 u) (O7 (mv u (nq (R9 u (fun a=>?_) (fun a=>?_)))))))
 ·have b:=a1a a hm
  refine sr (lv (u9 (v:=V6 100) u) (nq (rr ?_)))
  cases oi b
  exact ey results133 ⟨K,u,hS,(by decide :i7 100)⟩
 have b:=a09 a hm
 refine j3 (qr (lv (N2 u) (nq (j9 ?_))))
 cases oi b
 exact ey results133 ⟨K,u,hS,I5⟩

theorem a4X {r:(List r4)}(hS:SH w K [] w K [])(hm:a0I F=some r):
  Calls prog 78 #[] w fun e w'=>∃a_1 n_2 c_3 K',e= .returned (V3 a_1 n_2 c_3)∧SH w K [] w' K' [tail (V3 a_1 n_2 c_3) 9 1]∧b7 D9 K' a_1 n_2 c_3 r:=by
 rw [a0I] at hm
 refine ci func78 u ntmps78 (sr (lv (r_n u) (nr (bw [[99,97,116],[99,97,116,115],[100,111,103],[100,111,103,115],[114,117,110],[114,117,110,110,105,110,103],[116,104,101],[114,101,100],[98,105,103],[110,101,119],[121,111,114,107],[110,121],[102,111,120]] underlying23 G7 hS fun a f b i c d=>(av u (nq (j9 ?_)))))))
 cases oi hm
 exact ey results78 ⟨a,13,13,b,u,d,c⟩

theorem b2O {q0:z7}{r:q7×z7}(hS:SH w K Z w K [s7 g1 [V3 A a b,V6 q0.p_] 141])(ar:b7 tU8 K A a b q0.b_)(au:i7 q0.p_)(hm:a2U F q0=some r):
  Calls prog 144 #[.pointer (some ⟨g1,0,none⟩)] w fun e w'=>∃a_3 n_4 c_5 a_9 n_10 c_11 a_13 n_14 c_15 K',e= .returned (.agg #[V6 r.1.Kind,sv r.1.Field,V3 a_3 n_4 c_5,V6 r.1.From,V6 r.1.To,V3 a_9 n_10 c_11])∧SH w K Z w' K' [tail (V3 a_3 n_4 c_5) 9 1,tail (V3 a_9 n_10 c_11) 35 6,s7 g1 [V3 a_13 n_14 c_15,V6 r.2.p_] 141]∧i7 r.1.Kind∧r.1.Field.length≤maxLen∧b7 D9 K' a_3 n_4 c_5 r.1.Words∧i7 r.1.From∧i7 r.1.To∧b7 F4 K' a_9 n_10 c_11 r.1.Kids∧b7 tU8 K' a_13 n_14 c_15 r.2.b_∧i7 r.2.p_:=by
 rw [a2U] at hm
 refine ci func144 rfl ntmps144 (sr (al B1 hS fun g7 w9 ax=>?_))
 have ay:SH _ _ _ _ _ [s7 g7 [V6 0,sv [],V3 none 0 0,V6 0,V6 0,V3 none 0 0] 35,_]:=ax
 refine nr (mv rfl (bw [[98,111,100,121],[98,111,100,121],[116,105,116,108,101]] underlying23 G7 ay fun dl dm dn az aA aB=>?_))
 obtain⟨d,aC,aD⟩:=ob hm
 have R:=aB.f2
 refine lk b2o (J4 F R.e1 (ar.mono az) au aA aC) ?_
 rintro dp dq ⟨dr,ds,dt,du,rfl,aE,o,aF,aG⟩
 have S:=(R.c1 aE).t3
 refine av rfl (O7 (mv rfl ?_))
 obtain⟨dv,aH,aI⟩:=ob aD
 refine lk a4r (A6 F S.e1 aF aG (by decide :i7 9) aH) ?_
 rintro dw dx ⟨aJ,aK,aL,aM,rfl,aN,dy,f,i⟩
 have c:=(S.c1 aN).t3
 refine nq (j7 (sr (lv (A9 rfl rfl) (av rfl (nq (D5 aI rfl (fun aO q=>?_) (fun aO q=>?_)))))))
 ·refine sr (lv (C3 (cs:=#[V6 1,sv [],V3 none 0 0,V6 0,V6 0,V3 none 0 0]) a7c B1 rfl (by kernel_rfl)) (ls [V6 1,sv [],V3 none 0 0,V6 0,V6 0,V3 none 0 0] (.agg #[V6 1,sv [],V3 none 0 0,V6 0,V6 0,V3 none 0 0]) B1 c.f2 fun dz T=>(nq (j9 (i9 (c9 ?_))))))
  cases oi q
  have aP:=T.nil 9 1
  have aQ:=aP.nil 35 6
  exact ez results144 B1 T m0 ⟨none,0,0,none,0,0,aJ,aK,aL,aM,rfl,aQ.f3.f1.f2.s,(by decide :i7 1),(by decide :([]:r4).length≤maxLen),(b7.nil _ _),I5,I5,(b7.nil _ _),f,i⟩
 refine sr (lv (A9 rfl rfl) (av rfl (nq (D5 q rfl (fun aR s=>?_) (fun aR s=>?_)))))
 ·refine sr (mv rfl (mv rfl ?_))
  obtain⟨dA,aS,aT⟩:=ob s
  refine lk c4y (a4X F c.enter0 aS) ?_
  rintro dB dC ⟨dD,dE,dF,dG,rfl,U,aU⟩
  have aV:=(c.c0 U).t4
  obtain⟨l,aW,aX⟩:=ob aT
  have V:=aV.f1
  refine lk b2o (J4 F V.e1 (f.mono U.le) i aU aW) ?_
  rintro dH dI ⟨dJ,dK,dL,dM,rfl,aY,aZ,ba,bb⟩
  have W:=(V.c1 aY).t4
  refine mv rfl ?_
  obtain⟨dN,bc,bd⟩:=ob aX
  refine lk c4y (a4X F W.enter0 bc) ?_
  rintro dO dP ⟨dQ,dR,dS,dT,rfl,X,be⟩
  have bf:=(W.c0 X).t5
  obtain⟨m,bg,bh⟩:=ob bd
  have Y:=bf.f1
  refine lk b2o (J4 F Y.e1 (ba.mono X.le) bb be bg) ?_
  rintro dU dV ⟨dW,dX,dY,dZ,rfl,bi,bj,bk,bl⟩
  have bm:=(Y.c1 bi).t5
  refine J2 (t:=D9) (n:=2) (pv:=[(0,sv l.1),(1,sv m.1)]) (cs:=[sv l.1,sv m.1]) (xs:=[l.1,m.1]) wn rfl underlying23 G7 rfl rfl rfl (by kernel_rfl) rfl rfl (H5 (u:=sv l.1) (z:=l.1) ⟨rfl,aZ⟩ (H5 (u:=sv m.1) (z:=m.1) ⟨rfl,bj⟩ a1W)) bm fun v ea eb bn bo bp=>(mv rfl ?_)
  obtain⟨aa,bq,br⟩:=ob bh
  have ab:=bp.f1
  refine lk a4r (A6 F ab.e1 (bk.mono bn) bl (by decide :i7 3) bq) ?_
  rintro ec ed ⟨bs,bu,bv,bx,rfl,ac,bz,bA,bB⟩
  have bC:=(ab.c1 ac).t6
  refine lv (C3 (cs:=#[V6 3,sv d.1,V3 v 2 2,V6 aa.1,V6 0,V3 none 0 0]) a7c B1 rfl (by kernel_rfl)) (lw [V6 3,sv d.1,V3 v 2 2,V6 aa.1,V6 0,V3 none 0 0] B1 bC.f5 fun ee ad=>(nq (j9 (i9 (c9 ?_)))))
  cases oi br
  have bD:=ad.nil 35 6
  exact ez results144 B1 ad m0 ⟨v,2,2,none,0,0,bs,bu,bv,bx,rfl,bD.f2.f1.f3.s,(by decide :i7 3),o,(bo.mono ac.le),bz,I5,(b7.nil _ _),bA,bB⟩
 refine sr (lv (A9 rfl rfl) (av rfl (nq (D5 s rfl (fun bE x=>?_) (fun bE x=>?_)))))
 ·refine sr (mv rfl (mv rfl (bw [[99,111,116],[100,117,103],[114,110],[102,111,103]] underlying23 G7 c fun ef eg eh bF bG bH=>?_)))
  obtain⟨y,bI,bJ⟩:=ob x
  have ae:=bH.f1
  refine lk b2o (J4 F ae.e1 (f.mono bF) i bG bI) ?_
  rintro ei ej ⟨ek,el,em,en,rfl,bK,bL,bM,bN⟩
  have bO:=(ae.c1 bK).t4
  refine lb D9 (sv y.1) [sv y.1] y.1 underlying23 G7 ⟨rfl,bL⟩ bO fun B eo ep bP bQ bR=>(mv rfl ?_)
  obtain⟨af,bS,bT⟩:=ob bJ
  have ag:=bR.f1
  refine lk a4r (A6 F ag.e1 (bM.mono bP) bN (by decide :i7 2) bS) ?_
  rintro eq es ⟨bU,bV,bW,bX,rfl,ah,et,bY,bZ⟩
  have ca:=(ag.c1 ah).t5
  refine lv (y7 rfl rfl) (lv (C3 (cs:=#[V6 4,sv d.1,V3 B 1 1,V6 (z8 ((1:Int)+af.1)),V6 0,V3 none 0 0]) a7c B1 rfl (by kernel_rfl)) (lw [V6 4,sv d.1,V3 B 1 1,V6 (z8 ((1:Int)+af.1)),V6 0,V3 none 0 0] B1 ca.f4 fun eu ai=>(nq (j9 (i9 (c9 ?_))))))
  cases oi bT
  have cb:=ai.nil 35 6
  exact ez results144 B1 ai m0 ⟨B,1,1,none,0,0,bU,bV,bW,bX,rfl,cb.f2.f1.f3.s,(by decide :i7 4),o,(bQ.mono ah.le),(u0 _),I5,(b7.nil _ _),bY,bZ⟩
 refine sr (lv (A9 rfl rfl) (av rfl (nq (D5 x rfl (fun cc C=>?_) (fun cc C=>?_)))))
 ·refine sr (mv rfl (mv rfl (bw [[99,42],[63,111,63],[42,110],[42]] underlying23 G7 c fun ev ew ex cd ce cf=>?_)))
  obtain⟨D,cg,ch⟩:=ob C
  have aj:=cf.f1
  refine lk b2o (J4 F aj.e1 (f.mono cd) i ce cg) ?_
  rintro eA eB ⟨cj,ck,cl,eC,rfl,cm,cn,cp,cq⟩
  have cr:=(aj.c1 cm).t4
  refine lb D9 (sv D.1) [sv D.1] D.1 underlying23 G7 ⟨rfl,cn⟩ cr fun G eD ct cu cv cw=>(lv (C3 (cs:=#[V6 5,sv d.1,V3 G 1 1,V6 0,V6 0,V3 none 0 0]) a7c B1 rfl (by kernel_rfl)) (lw [V6 5,sv d.1,V3 G 1 1,V6 0,V6 0,V3 none 0 0] B1 cw.f4 fun eE ak=>(nq (j9 (i9 (c9 ?_))))))
  cases oi ch
  have cx:=ak.nil 35 6
  exact ez results144 B1 ak m0 ⟨G,1,1,none,0,0,cj,ck,cl,ct,rfl,cx.f3.f1.f3.s,(by decide :i7 5),o,cv,I5,I5,(b7.nil _ _),(cp.mono cu),cq⟩
 refine sr (lv (A9 rfl rfl) (av rfl (nq (D5 C rfl (fun cy H=>?_) (fun cy H=>?_)))))
 ·refine sr (mv rfl ?_)
  obtain⟨k,cz,cA⟩:=ob H
  refine lk a4r (A6 F c.e1 f i (by decide :i7 4) cz) ?_
  rintro eF eG ⟨eH,eI,eJ,eK,rfl,cB,cC,cD,cE⟩
  have am:=(c.c1 cB).t3
  refine av rfl (nr (mv rfl (mv rfl (mv rfl ?_))))
  obtain⟨I,cF,cG⟩:=ob cA
  refine lk a4r (A6 F am.e1 cD cE (by decide :i7 3) cF) ?_
  rintro eL eM ⟨cH,cI,cJ,cK,rfl,cL,eN,cM,cN⟩
  have cO:=(am.c1 cL).t3
  refine lv (y7 rfl rfl) (lv (C3 (cs:=#[V6 6,sv [114,97,116,101],V3 none 0 0,V6 k.1,V6 (z8 (k.1+I.1)),V3 none 0 0]) a7c B1 rfl (by kernel_rfl)) (ls [V6 6,sv [114,97,116,101],V3 none 0 0,V6 k.1,V6 (z8 (k.1+I.1)),V3 none 0 0] (.agg #[V6 6,sv [114,97,116,101],V3 none 0 0,V6 k.1,V6 (z8 (k.1+I.1)),V3 none 0 0]) B1 cO.f2 fun eO an=>(nq (j9 (i9 (c9 ?_))))))
  cases oi cG
  have cP:=an.nil 9 1
  have cQ:=cP.nil 35 6
  exact ez results144 B1 an m0 ⟨none,0,0,none,0,0,cH,cI,cJ,cK,rfl,cQ.f3.f1.f2.s,(by decide :i7 6),(by decide :([114,97,116,101]:r4).length≤maxLen),(b7.nil _ _),cC,(u0 _),(b7.nil _ _),cM,cN⟩
 refine j3 (x8 (qr (mv rfl (mv rfl ?_))))
 obtain⟨eP,cR,cS⟩:=ob H
 refine lk c4y (a4X F c.enter0 cR) ?_
 rintro eQ eR ⟨eS,eT,eU,eV,rfl,ao,cT⟩
 have cU:=(c.c0 ao).t4
 obtain⟨J,cV,cW⟩:=ob cS
 have ap:=cU.f1
 refine lk b2o (J4 F ap.e1 (f.mono ao.le) i cT cV) ?_
 rintro eW eX ⟨cX,cY,cZ,eY,rfl,da,db,dc,dd⟩
 have de:=(ap.c1 da).t4
 refine lb D9 (sv J.1) [sv J.1] J.1 underlying23 G7 ⟨rfl,db⟩ de fun O eZ df dg dh di=>(lv (C3 (cs:=#[V6 2,sv d.1,V3 O 1 1,V6 0,V6 0,V3 none 0 0]) a7c B1 rfl (by kernel_rfl)) (lw [V6 2,sv d.1,V3 O 1 1,V6 0,V6 0,V3 none 0 0] B1 di.f4 fun fb aq=>(nq (j9 ?_))))
 cases oi cW
 have dj:=aq.nil 35 6
 exact ez results144 B1 aq m0 ⟨O,1,1,none,0,0,cX,cY,cZ,df,rfl,dj.f3.f1.f3.s,(by decide :i7 2),o,dh,I5,I5,(b7.nil _ _),(dc.mono dg),dd⟩

theorem a3q (F:Nat): ∀{w:World} {K:F9} {g1:Nat} {l:Option Addr} {m o:Nat} {q0:z7} {q1:Int} {r:q7×z7} (hS:SH w K (List.flatMap F5.gs [s7 g1 [V3 l m o,V6 q0.p_] 141]) w K [s7 g1 [V3 l m o,V6 q0.p_] 141]) (bd:b7 tU8 K l m o q0.b_) (be:i7 q0.p_) (cF:i7 q1) (hm:F0 F q0 q1=some r),
  Calls prog 93 #[.pointer (some ⟨g1,0,none⟩),V6 q1] w fun e w'=>∃a_3 n_4 c_5 a_9 n_10 c_11 a_13 n_14 c_15 K',e= .returned (.agg #[V6 r.1.Kind,sv r.1.Field,V3 a_3 n_4 c_5,V6 r.1.From,V6 r.1.To,V3 a_9 n_10 c_11])∧SH w K (List.flatMap F5.gs [s7 g1 [V3 l m o,V6 q0.p_] 141]) w' K' [tail (V3 a_3 n_4 c_5) 9 1,tail (V3 a_9 n_10 c_11) 35 6,s7 g1 [V3 a_13 n_14 c_15,V6 r.2.p_] 141]∧i7 r.1.Kind∧r.1.Field.length≤maxLen∧b7 D9 K' a_3 n_4 c_5 r.1.Words∧i7 r.1.From∧i7 r.1.To∧b7 F4 K' a_9 n_10 c_11 r.1.Kids∧b7 tU8 K' a_13 n_14 c_15 r.2.b_∧i7 r.2.p_:=by
 induction F with
 | zero=>intros;rename_i hm;rw [F0] at hm;cases hm
 | succ F ih=>
  intro w K g1 l m o q0 q1 r hS bd be cF hm
  rw [F0] at hm
  refine ci func93 rfl ntmps93 (sr (al B1 hS fun q w9 cG=>?_))
  have bT:SH _ _ _ _ _ [s7 q [V6 0,sv [],V3 none 0 0,V6 0,V6 0,V3 none 0 0] 35,_]:=cG
  refine ns (o4 ?_)
  obtain⟨ak,cH,cI⟩:=ob hm
  refine l4 (fun E' w'=>∃bf bg bh am,E'=[(0,pt g1),(1,V6 q1),(4,pt q),(13,.bool ak.1)]∧SH w K (List.flatMap F5.gs [s7 g1 [V3 l m o,V6 q0.p_] 141]) w' am [s7 g1 [V3 bf bg bh,V6 ak.2.p_] 141,s7 q [V6 0,sv [],V3 none 0 0,V6 0,V6 0,V3 none 0 0] 35]∧M0 K am∧b7 tU8 am bf bg bh ak.2.b_∧i7 ak.2.p_) ?_ ?_
  ·refine j5 (mv rfl (lv (V2 rfl rfl) (mv rfl (bt cH (fun s bi=>?_) (fun s bi=>?_)))))
   ·refine lu s (lu s (lu s (lv (J6 rfl s rfl) (i8 ?_))))
    cases oi bi
    exact qd ⟨l,m,o,K,rfl,bT.f1,kr,bd,be⟩
   refine lg s (i5 rfl) ?_
   obtain⟨gr,cJ,cK⟩:=ob bi
   have bU:=bT.f1
   refine A3 (wg rfl rfl s) rfl (A2 (vs:=[pt g1,V6 3]) a4r rfl) (A6 F bU.e1 bd be (by decide :i7 3) cJ) ?_
   rintro gv gw ⟨cL,cM,cN,cO,rfl,bV,gx,cP,cQ⟩
   refine⟨_,rfl,?_⟩
   have cR:=(bU.c1 bV).t2
   refine lg s (A9 rfl rfl) (lv (l9 rfl s rfl) (i8 ?_))
   cases oi cK
   exact qd ⟨cL,cM,cN,cO,rfl,cR,bV.le,cP,cQ⟩
  rintro _ gy ⟨bf,bg,bh,am,rfl,an,gz,bW,bX⟩
  refine l5 (D5 cI rfl (fun cS bj=>?_) (fun cS bj=>?_))
  ·refine sr (mv rfl ?_)
   obtain⟨ao,cT,cU⟩:=ob bj
   refine lk c5M (b2O F an.e1 bW bX cT) ?_
   rintro gA gB ⟨bY,bZ,ca,cb,cc,cd,cV,cW,cX,cY,rfl,cZ,da,db,dc,dd,de,df,dg,dh⟩
   have di:=(an.c1 cZ).t4
   refine lw [V6 ao.1.Kind,sv ao.1.Field,V3 bY bZ ca,V6 ao.1.From,V6 ao.1.To,V3 cb cc cd] B1 di.f3 fun gC ce=>(nq (rr ?_))
   cases oi cU
   exact ez results93 B1 ce m0 ⟨bY,bZ,ca,cb,cc,cd,cV,cW,cX,cY,rfl,ce.s,da,db,dc,dd,de,df,dg,dh⟩
  refine j3 (qs (sr (mv rfl ?_)))
  obtain⟨dj,dk,dl⟩:=ob bj
  refine lk a4r (A6 F an.e1 bW bX (by decide :i7 6) dk) ?_
  rintro gD gE ⟨cf,cg,ch,ap,rfl,dm,gF,aq,ar⟩
  have V:=(an.c1 dm).t2
  refine nq ?_
  obtain⟨dn,dp,W⟩:=ob dl
  refine l4 (fun E' w'=>∃b bk bl bm ad ae af ag ah ai X,dn= .inl b∧E'=[(0,pt g1),(1,V6 q1),(4,pt q)]∧SH w K (List.flatMap F5.gs [s7 g1 [V3 l m o,V6 q0.p_] 141]) w' X [s7 g1 [V3 bk bl bm,V6 b.1.p_] 141,s7 q [V6 b.2.Kind,sv b.2.Field,V3 ad ae af,V6 b.2.From,V6 b.2.To,V3 ag ah ai] 35]∧M0 ap X∧b7 tU8 X bk bl bm b.1.b_∧i7 b.1.p_∧i7 b.2.Kind∧b.2.Field.length≤maxLen∧b7 D9 X ad ae af b.2.Words∧i7 b.2.From∧i7 b.2.To∧b7 F4 X ag ah ai b.2.Kids) ?_ ?_
  ·refine j7 (sr (lv (A9 rfl rfl) (av rfl (nq (D5 dp rfl (fun dq bn=>?_) (fun dq bn=>?_))))))
   ·refine sr (mv rfl (mv rfl (lv (I6 rfl rfl) ?_)))
    obtain⟨d,dr,dt⟩:=ob bn
    refine lk b4B (ih V.e1 aq ar (u0 _) dr) ?_
    rintro gG gH ⟨au,aw,ax,ay,az,aA,gI,gJ,gK,gL,rfl,du,dv,dw,dx,dy,dz,dA,dB,dC⟩
    have dD:=(V.c1 du).t4
    refine mv rfl (mv rfl (lv (I6 rfl rfl) ?_))
    obtain⟨f,dE,dF⟩:=ob dt
    have cj:=dD.f2
    refine lk b4B (ih cj.e1 dB dC (u0 _) dE) ?_
    rintro gM gN ⟨aB,aC,aD,aE,aF,aG,dG,dH,dI,gO,rfl,bo,dJ,dK,dL,dM,dN,dO,dP,dQ⟩
    have dR:=(cj.c1 bo).t6
    refine J2 (t:=F4) (n:=2) (pv:=[(0,.agg #[V6 d.1.Kind,sv d.1.Field,V3 au aw ax,V6 d.1.From,V6 d.1.To,V3 ay az aA]),(1,.agg #[V6 f.1.Kind,sv f.1.Field,V3 aB aC aD,V6 f.1.From,V6 f.1.To,V3 aE aF aG])]) (cs:=[V6 d.1.Kind,sv d.1.Field,V3 au aw ax,V6 d.1.From,V6 d.1.To,V3 ay az aA,V6 f.1.Kind,sv f.1.Field,V3 aB aC aD,V6 f.1.From,V6 f.1.To,V3 aE aF aG]) (xs:=[d.1,f.1]) wn rfl underlying33 B1 rfl rfl rfl (by kernel_rfl) rfl rfl (H5 (u:=.agg #[V6 d.1.Kind,sv d.1.Field,V3 au aw ax,V6 d.1.From,V6 d.1.To,V3 ay az aA]) (z:=d.1) (M4 ⟨au,aw,ax,ay,az,aA,rfl,dv,dw,(dx.mono bo.le),dy,dz,(dA.mono bo.le)⟩) (H5 (u:=.agg #[V6 f.1.Kind,sv f.1.Field,V3 aB aC aD,V6 f.1.From,V6 f.1.To,V3 aE aF aG]) (z:=f.1) (M4 ⟨aB,aC,aD,aE,aF,aG,rfl,dJ,dK,dL,dM,dN,dO⟩) a1W)) dR fun aH gP dS dT dU dV=>?_
    refine lv (C3 (cs:=#[V6 9,sv [],V3 none 0 0,V6 0,V6 0,V3 aH 2 2]) a7c B1 rfl (by kernel_rfl)) (ls [V6 9,sv [],V3 none 0 0,V6 0,V6 0,V3 aH 2 2] (.agg #[V6 9,sv [],V3 none 0 0,V6 0,V6 0,V3 aH 2 2]) B1 dV.f6 fun gQ ck=>(nq (j9 (i9 (c9 ?_)))))
    cases oi dF
    refine c9 ?_
    cases oi W
    have dW:=ck.nil 9 1
    exact ez results93 B1 ck m0 ⟨none,0,0,aH,2,2,dG,dH,dI,dS,rfl,dW.s,(by decide :i7 9),(by decide :([]:r4).length≤maxLen),(b7.nil _ _),I5,I5,dU,(dP.mono dT),dQ⟩
   refine sr (lv (A9 rfl rfl) (av rfl (nq (D5 bn rfl (fun dX bp=>?_) (fun dX bp=>?_)))))
   ·refine sr (mv rfl ?_)
    obtain⟨bq,dY,dZ⟩:=ob bp
    refine lk a4r (A6 F V.e1 aq ar (by decide :i7 4) dY) ?_
    rintro gR gS ⟨gT,gU,gV,gW,rfl,ea,gX,eb,ec⟩
    have cl:=(V.c1 ea).t2
    refine lv (y7 rfl rfl) (mv rfl (mv rfl (lv (I6 rfl rfl) ?_)))
    obtain⟨x,ed,ee⟩:=ob dZ
    refine lk b4B (ih cl.e1 eb ec (u0 _) ed) ?_
    rintro gY gZ ⟨br,bs,bu,bv,bx,bz,ef,eg,eh,hb,rfl,ei,ej,ek,el,em,en,eo,ep,eq⟩
    have es:=(cl.c1 ei).t4
    refine lb F4 (.agg #[V6 x.1.Kind,sv x.1.Field,V3 br bs bu,V6 x.1.From,V6 x.1.To,V3 bv bx bz]) [V6 x.1.Kind,sv x.1.Field,V3 br bs bu,V6 x.1.From,V6 x.1.To,V3 bv bx bz] x.1 underlying33 B1 (M4 ⟨br,bs,bu,bv,bx,bz,rfl,ej,ek,el,em,en,eo⟩) es fun aI hc et eu ev ew=>(lv (C3 (cs:=#[V6 10,sv [],V3 none 0 0,V6 (z8 ((2:Int)+bq.1)),V6 0,V3 aI 1 1]) a7c B1 rfl (by kernel_rfl)) (ls [V6 10,sv [],V3 none 0 0,V6 (z8 ((2:Int)+bq.1)),V6 0,V3 aI 1 1] (.agg #[V6 10,sv [],V3 none 0 0,V6 (z8 ((2:Int)+bq.1)),V6 0,V3 aI 1 1]) B1 ew.f4 fun hd cm=>(nq (j9 (i9 (c9 ?_))))))
    cases oi ee
    refine c9 ?_
    cases oi W
    have ex:=cm.nil 9 1
    exact ez results93 B1 cm m0 ⟨none,0,0,aI,1,1,ef,eg,eh,et,rfl,ex.s,(by decide :i7 10),(by decide :([]:r4).length≤maxLen),(b7.nil _ _),(u0 _),I5,ev,(ep.mono eu),eq⟩
   refine o4 (sr (lv (A9 rfl rfl) (av rfl (nq ?_))))
   obtain⟨eA,eB,eC⟩:=ob bp
   refine l4 (IV w K (List.flatMap F5.gs [s7 g1 [V3 l m o,V6 q0.p_] 141]) ap [(0,pt g1),(1,V6 q1),(4,pt q),(41,.bool eA)] [s7 g1 [V3 cf cg ch,V6 dj.2.p_] 141,s7 q [V6 0,sv [],V3 none 0 0,V6 0,V6 0,V3 none 0 0] 35]) ?_ ?_
   ·refine D5 eB rfl (fun eD bA=>?_) (fun eD bA=>?_)
    ·refine j3 ?_
     cases oi bA
     exact qd ⟨ap,rfl,V,kr⟩
    refine j5 (lv (A9 rfl rfl) (av rfl (i8 ?_)))
    cases oi bA
    exact qd ⟨ap,rfl,V,kr⟩
   rintro _ he ⟨eE,rfl,bB,bC⟩
   refine l5 (D5 eC rfl (fun eF bD=>?_) (fun eF bD=>?_))
   ·refine sr (mv rfl (mv rfl (lv (I6 rfl rfl) ?_)))
    obtain⟨i,eG,eH⟩:=ob bD
    refine lk b4B (ih bB.e1 (aq.mono bC) ar (u0 _) eG) ?_
    rintro hf hg ⟨aJ,aK,aL,aM,aN,aO,hh,hi,hj,hk,rfl,eI,eJ,eK,eL,eM,eN,eO,eP,eQ⟩
    have eR:=(bB.c1 eI).t4
    refine mv rfl (mv rfl (lv (I6 rfl rfl) ?_))
    obtain⟨k,eS,eT⟩:=ob eH
    have cn:=eR.f2
    refine lk b4B (ih cn.e1 eP eQ (u0 _) eS) ?_
    rintro hn ho ⟨aP,aQ,aR,aS,aT,aU,eU,eV,eW,hp,rfl,bE,eX,eY,eZ,fb,fc,fd,fe,fg⟩
    have fh:=(cn.c1 bE).t6
    refine J2 (t:=F4) (n:=2) (pv:=[(0,.agg #[V6 i.1.Kind,sv i.1.Field,V3 aJ aK aL,V6 i.1.From,V6 i.1.To,V3 aM aN aO]),(1,.agg #[V6 k.1.Kind,sv k.1.Field,V3 aP aQ aR,V6 k.1.From,V6 k.1.To,V3 aS aT aU])]) (cs:=[V6 i.1.Kind,sv i.1.Field,V3 aJ aK aL,V6 i.1.From,V6 i.1.To,V3 aM aN aO,V6 k.1.Kind,sv k.1.Field,V3 aP aQ aR,V6 k.1.From,V6 k.1.To,V3 aS aT aU]) (xs:=[i.1,k.1]) wn rfl underlying33 B1 rfl rfl rfl (by kernel_rfl) rfl rfl (H5 (u:=.agg #[V6 i.1.Kind,sv i.1.Field,V3 aJ aK aL,V6 i.1.From,V6 i.1.To,V3 aM aN aO]) (z:=i.1) (M4 ⟨aJ,aK,aL,aM,aN,aO,rfl,eJ,eK,(eL.mono bE.le),eM,eN,(eO.mono bE.le)⟩) (H5 (u:=.agg #[V6 k.1.Kind,sv k.1.Field,V3 aP aQ aR,V6 k.1.From,V6 k.1.To,V3 aS aT aU]) (z:=k.1) (M4 ⟨aP,aQ,aR,aS,aT,aU,rfl,eX,eY,eZ,fb,fc,fd⟩) a1W)) fh fun aV hq fi fj fk fm=>?_
    refine lv (C3 (cs:=#[V6 7,sv [],V3 none 0 0,V6 0,V6 0,V3 aV 2 2]) a7c B1 rfl (by kernel_rfl)) (ls [V6 7,sv [],V3 none 0 0,V6 0,V6 0,V3 aV 2 2] (.agg #[V6 7,sv [],V3 none 0 0,V6 0,V6 0,V3 aV 2 2]) B1 fm.f6 fun hr cp=>(nq (j9 (i9 (c9 ?_)))))
    cases oi eT
    refine c9 ?_
    cases oi W
    have fn:=cp.nil 9 1
    exact ez results93 B1 cp m0 ⟨none,0,0,aV,2,2,eU,eV,eW,fi,rfl,fn.s,(by decide :i7 7),(by decide :([]:r4).length≤maxLen),(b7.nil _ _),I5,I5,fk,(fe.mono fj),fg⟩
   refine j3 (x8 ?_)
   cases oi bD
   exact qd ⟨_,cf,cg,ch,none,0,0,none,0,0,eE,rfl,rfl,bB,bC,(aq.mono bC),ar,I5,(by decide :([]:r4).length≤maxLen),(b7.nil _ _),I5,I5,(b7.nil _ _)⟩
  rintro _ ht ⟨b,bk,bl,bm,ad,ae,af,ag,ah,ai,X,rfl,rfl,fo,hu,fp,fq,hv,hw,hx,hy,hz,hA⟩
  have W:=E9 W
  refine qr (lv (C3 (cs:=#[V6 8,sv [],V3 none 0 0,V6 0,V6 0,V3 none 0 0]) a7c B1 rfl (by kernel_rfl)) (al B1 fo fun Y hB fr=>?_))
  have fs:SH _ _ _ _ _ [s7 Y [V6 0,sv [],V3 none 0 0,V6 0,V6 0,V3 none 0 0] 35,_,_]:=fr
  refine ls [V6 8,sv [],V3 none 0 0,V6 0,V6 0,V3 none 0 0] (.agg #[V6 8,sv [],V3 none 0 0,V6 0,V6 0,V3 none 0 0]) B1 fs fun hC ft=>(O7 (mv rfl ?_))
  obtain⟨hD,fu,fv⟩:=ob W
  have cq:=ft.f1
  refine lk a4r (A6 F cq.e1 fp fq (by decide :i7 2) fu) ?_
  rintro hE hF ⟨fw,fx,fy,bF,rfl,fz,hG,fA,fB⟩
  have fC:=(cq.c1 fz).t3
  refine lv (y7 rfl rfl) (av rfl (nq ?_))
  obtain⟨c,fD,fE⟩:=ob fv
  refine l4 (fun E' w'=>∃aW aX aY H I J O R S T,E'=[(0,pt g1),(4,pt q),(5,pt Y)]∧SH w K (List.flatMap F5.gs [s7 g1 [V3 l m o,V6 q0.p_] 141]) w' T [s7 g1 [V3 aW aX aY,V6 c.1.p_] 141,s7 q [V6 b.2.Kind,sv b.2.Field,V3 ad ae af,V6 b.2.From,V6 b.2.To,V3 ag ah ai] 35,s7 Y [V6 c.2.Kind,sv c.2.Field,V3 H I J,V6 c.2.From,V6 c.2.To,V3 O R S] 35,tail (V3 H I J) 9 1,tail (V3 O R S) 35 6]∧M0 bF T∧b7 tU8 T aW aX aY c.1.b_∧i7 c.1.p_∧i7 c.2.Kind∧c.2.Field.length≤maxLen∧b7 D9 T H I J c.2.Words∧i7 c.2.From∧i7 c.2.To∧b7 F4 T O R S c.2.Kids) ?_ ?_
  ·refine j7 ?_
   obtain⟨hH,fF,fG⟩:=ob fD
   have fH:=fC.nil 9 1
   have fI:=fH.nil 35 6
   refine qw (fun (a:Int×z7×q7) E' w'=>∃aZ ba bb A B C aa ab ac D,E'=[(0,pt g1),(1,V6 q1),(4,pt q),(5,pt Y),(6,V6 a.1)]∧SH w K (List.flatMap F5.gs [s7 g1 [V3 l m o,V6 q0.p_] 141]) w' D [s7 g1 [V3 aZ ba bb,V6 a.2.1.p_] 141,s7 q [V6 b.2.Kind,sv b.2.Field,V3 ad ae af,V6 b.2.From,V6 b.2.To,V3 ag ah ai] 35,s7 Y [V6 a.2.2.Kind,sv a.2.2.Field,V3 A B C,V6 a.2.2.From,V6 a.2.2.To,V3 aa ab ac] 35,tail (V3 A B C) 9 1,tail (V3 aa ab ac) 35 6]∧M0 bF D∧i7 a.1∧b7 tU8 D aZ ba bb a.2.1.b_∧i7 a.2.1.p_∧i7 a.2.2.Kind∧a.2.2.Field.length≤maxLen∧b7 D9 D A B C a.2.2.Words∧i7 a.2.2.From∧i7 a.2.2.To∧b7 F4 D aa ab ac a.2.2.Kids) fF ⟨fw,fx,fy,none,0,0,none,0,0,bF,rfl,fI.f1.f3.f4.f4,kr,(u0 _),fA,fB,(by decide :i7 8),(by decide :([]:r4).length≤maxLen),(b7.nil _ _),I5,I5,(b7.nil _ _)⟩ ?_
   rintro a _ hI hJ fJ fK ⟨aZ,ba,bb,A,B,C,aa,ab,ac,D,rfl,cr,ct,hK,cu,cv,cw,cx,cy,cz,cA,cB⟩
   refine o4 (sr (mv rfl (lv (E7 rfl rfl) (nq (D5 fJ rfl (fun fL bG=>?_) (fun fL bG=>?_))))))
   ·refine j3 (qs (j7 ?_))
    have bc:=cr.drew
    refine wh1 (fun w'=>H0 D w') (fun w'=>B0 Y [V6 a.2.2.Kind,sv a.2.2.Field,V3 A B C,V6 a.2.2.From,V6 a.2.2.To,V3 aa ab ac] w') 9 [(1,7),(1,8),(1,9),(7,8),(7,9),(8,9)] mixed (bc.hasK kr) (fun _=>bc.hasObj (.tail _ (.tail _ (.head _)))) (gt (c7 W9 rfl) (gf (fun _ h=>B5 a5u rfl rfl h) (gt (i5 rfl) (gt (i5 rfl) (gt (I6 rfl rfl) (gn ?_))))))
    obtain⟨y,fM,fN⟩:=ob bG
    refine lk b4B (ih bc.e1 cu cv (u0 _) fM) ?_
    rintro hL hM ⟨bH,bI,bJ,bK,bL,bM,fO,fP,fQ,hN,rfl,G,fR,fS,fT,fU,fV,fW,fX,fY⟩
    have bN:=(bc.c1 G).t7
    refine i8 (qh (bN.hasK G.le) (fun _=>bN.hasObj (.tail _ (.tail _ (.tail _ (.tail _ (.head _)))))) (gn (lb F4 (.agg #[V6 y.1.Kind,sv y.1.Field,V3 bH bI bJ,V6 y.1.From,V6 y.1.To,V3 bK bL bM]) [V6 y.1.Kind,sv y.1.Field,V3 bH bI bJ,V6 y.1.From,V6 y.1.To,V3 bK bL bM] y.1 underlying33 B1 (M4 ⟨bH,bI,bJ,bK,bL,bM,rfl,fR,fS,fT,fU,fV,fW⟩) bN fun hO hP hQ U fZ bO=>(i8 (qh (bO.hasK (G.le.trans U)) (fun _=>bO.hasObj (.tail _ (.tail _ (.tail _ (.tail _ (.tail _ (.head _))))))) (gn ?_))))))
    obtain⟨hR,ga,gb⟩:=ob fN
    refine lp underlying33 B1 (cB.mono (G.le.trans U)) fZ ga bO.f7 fun bP bQ bR hT gc aj gd bS=>(i8 (qh (bS.hasK ((G.le.trans U).trans aj)) (fun _=>bS.hasObj (.tail _ (.tail _ (.tail _ (.tail _ (.tail _ (.tail _ (.head _)))))))) (gt (c7 W9 rfl) (gn (ls [V6 a.2.2.Kind,sv a.2.2.Field,V3 A B C,V6 a.2.2.From,V6 a.2.2.To,V3 bP bQ bR] (V3 bP bQ bR) a5u bS.f6 fun hU cC=>(i8 (qh (cC.hasK ((G.le.trans U).trans aj)) (fun h=>by cases h) (gd' (x8 (l5 (j5 ?_)))))))))))
    refine mv rfl (lv (I6 rfl rfl) (av rfl (i8 ?_)))
    cases oi gb
    exact qd ⟨_,rfl,fO,fP,fQ,A,B,C,bP,bQ,bR,gc,rfl,cC.f1.f7.f2.f7.f7.s,(((ct.trans G.le).trans U).trans aj),(u0 _),(fX.mono (U.trans aj)),fY,cw,cx,(cy.mono ((G.le.trans U).trans aj)),cz,cA,gd⟩
   refine y4 (g8 (g8 ?_))
   cases oi bG
   cases fK _ rfl
   refine l6 ?_
   cases oi fG
   exact qd ⟨aZ,ba,bb,A,B,C,aa,ab,ac,D,rfl,cr,ct,cu,cv,cw,cx,cy,cz,cA,cB⟩
  rintro _ hV ⟨aW,aX,aY,H,I,J,O,R,S,T,rfl,cD,hW,ge,gg,gj,gk,gl,gm,go,gp⟩
  refine qr (lv (j6 (ds:=[V6 c.2.Kind,sv c.2.Field,V3 H I J,V6 c.2.From,V6 c.2.To,V3 O R S]) B1 rfl m2 cD rfl rfl) (lw [V6 c.2.Kind,sv c.2.Field,V3 H I J,V6 c.2.From,V6 c.2.To,V3 O R S] B1 cD.f1 fun hX cE=>(nq (j9 ?_))))
  cases oi fE
  exact ez results93 B1 cE m0 ⟨H,I,J,O,R,S,aW,aX,aY,T,rfl,cE.f1.f4.f4.s,gj,gk,gl,gm,go,gp,ge,gg⟩

theorem a4z {q0:z7}{q1:List Int}{r:Int×z7}(hS:SH w K Z w K [s7 g1 [V3 A a b,V6 q0.p_] 141])(l:b7 tU8 K A a b q0.b_)(m:i7 q0.p_)(f:b7 D6 K B c d q1)(hm:V0 F q0 q1=some r):
  Calls prog 79 #[.pointer (some ⟨g1,0,none⟩),V3 B c d] w fun e w'=>∃a_2 n_3 c_4 K',e= .returned (V6 r.1)∧SH w K Z w' K' [s7 g1 [V3 a_2 n_3 c_4,V6 r.2.p_] 141]∧i7 r.1∧b7 tU8 K' a_2 n_3 c_4 r.2.b_∧i7 r.2.p_:=by
 rw [V0] at hm
 refine ci func79 u ntmps79 (sr (lv (N2 u) (nr (mv u (mv u (mv u (lv (q9 underlying46 u f) ?_)))))))
 obtain⟨W,o,q⟩:=ob hm
 refine lk a4r (A6 F hS.e1 l m f.rn o) ?_
 rintro X Y ⟨s,x,y,C,rfl,i,aa,D,G⟩
 have k:=(hS.c1 i).t1
 obtain⟨H,I,J⟩:=ob q
 refine li underlying46 E6 (f.mono i.le) I fun O R ab S T=>?_
 obtain⟨rfl,U⟩:=S
 have V:F1 _ O R [V6 H]:=T
 refine lv (y9 E6 u k (V 0 _ u)) (av u (nq (j9 ?_)))
 cases oi J
 exact ey results79 ⟨s,x,y,C,u,k,U,D,G⟩
end Go.Proofs.YtnloenhmkdpgeaaGreatDoor
