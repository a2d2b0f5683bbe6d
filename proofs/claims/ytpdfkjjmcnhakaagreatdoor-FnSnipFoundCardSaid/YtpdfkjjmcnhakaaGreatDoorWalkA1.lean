/-
 Walks of the functions. Printed by gen.py.
-/
import Derived.Test.YtpdfkjjmcnhakaaGreatDoorFacts
set_option linter.unusedVariables false
set_option linter.unusedSectionVars false
set_option maxRecDepth 100000
namespace Go.Proofs.YtpdfkjjmcnhakaaGreatDoor
set_option maxHeartbeats 4000000
open Go Go.Fk Go.RowKit Tryz
variable (F:Nat){w:World}{K:C7}{Z:List Nat}{g1 g2 g3:Nat}{A B C D G H I J O R S T:Option Addr}{a b c d f i k l m n o p q s v x y aa ab ac ad ae af ag:Nat}
variable [dr:Dr]

theorem a7D {q0:List UInt8}{r:y2}(hS:SH w K [] w K [])(c:b7 tU8 K A a b q0)(hm:Y9 F q0=some r):
  Calls prog 39 #[V3 A a b] w fun e w'=>∃g_1 a_2 n_3 c_4 K',e= .returned (.pointer (some ⟨g_1,0,none⟩))∧SH w K [] w' K' [r5 g_1 [V3 a_2 n_3 c_4,V6 r.p_] 140]∧b7 tU8 K' a_2 n_3 c_4 r.b_∧j5 r.p_:=by
 rw [Y9] at hm
 refine ci func39 u ntmps39 (sr (lv (r4 (v:=.pointer none) u) (Q9 (mv u (lv (p7 underlying50 u c) (lv (E9 u u) (nq (a0n u (fun d=>?_) (fun d=>?_)))))))))
 ·have f:=a3w d hm
  refine j3 (mv u ?_)
  obtain⟨G,q,s⟩:=ob f
  refine a7X (t:=tU8) wn u underlying50 tf5 u u c q fun i k l x=>(av u (nr (mv u (lv (C4 (cs:=#[V3 i k l,V6 0]) b8g b8i u (by kernel_rfl)) (bx u hS fun m H y=>?_)))))
  have B:SH _ _ _ _ _ [r5 m [V3 i k l,V6 0] 140]:=y
  refine av u (nq (l7 ?_))
  cases oi s
  exact ey results39 ⟨m,i,k,l,K,u,B,x,R3⟩
 have f:=a3v d hm
 refine i8 (qr (mv u (lv (C4 (cs:=#[V3 A a b,V6 0]) b8g b8i u (by kernel_rfl)) (bx u hS fun o I C=>?_))))
 have D:SH _ _ _ _ _ [r5 o [V3 A a b,V6 0] 140]:=C
 refine av u (nq (l7 ?_))
 cases oi f
 exact ey results39 ⟨o,A,a,b,K,u,D,c,R3⟩

theorem a2r {q0:UInt8}{r:UInt8}(hS:SH w K [] w K [])(hm:J9 F q0=some r):
  Calls prog 109 #[iv8 q0] w fun e w'=>∃K',e= .returned (iv8 r)∧SH w K [] w' K' []:=by
 rw [J9] at hm
 refine ci func109 u ntmps109 (sr (lv (r4 (v:=iv8 0) u) (ns (i7 (n9 ?_)))))
 obtain⟨D,G,H⟩:=ob hm
 refine j9 (IV w K [] K [(0,iv8 q0),(3,.bool D)] []) ?_ ?_
 ·refine j3 (mv u (lv (a4w (b:=(65:UInt8)) u u) (mv u (bt G (fun c m=>?_) (fun c m=>?_)))))
  ·refine lg c (i4 u) (lg c (a4x (b:=(90:UInt8)) u u) (lv (q8 u c u) (av u (i5 ?_))))
   cases oi m
   exact qd ⟨K,u,hS,kr⟩
  refine lu c (lu c (lv (X8 u c u) (av u (i5 ?_))))
  cases oi m
  exact qd ⟨K,u,hS,kr⟩
 rintro _ T ⟨d,rfl,l,U⟩
 refine l4 (D0 H u (fun I o=>?_) (fun I o=>?_))
 ·refine sr (mv u (lv (b3U (b:=(32:UInt8)) u u) (av u (nq (l7 (j4 (g6 ?_)))))))
  cases oi o
  exact ey results109 ⟨d,u,l⟩
 refine n9 ?_
 obtain⟨J,O,R⟩:=ob o
 refine j9 (IV w K [] d [(0,iv8 q0),(12,.bool J)] []) ?_ ?_
 ·refine j3 (mv u (lv (a4w (b:=(97:UInt8)) u u) (mv u (bt O (fun f q=>?_) (fun f q=>?_)))))
  ·refine lg f (i4 u) (lg f (a4x (b:=(122:UInt8)) u u) (lv (q8 u f u) (mv u (bt q (fun a s=>?_) (fun a s=>?_)))))
   ·refine lu a (lu a (lu a (D4 (uu u u) u (D4 (uu u u) u (lu a (lv (L1 u a u) (av u (i5 ?_))))))))
    cases oi s
    exact qd ⟨d,u,l,kr⟩
   refine lg a (i4 u) (lg a (a4w (b:=(48:UInt8)) u u) (lg a (i4 u) (bt s (fun i x=>?_) (fun i x=>?_))))
   ·refine lg i (i4 u) (lg i (a4x (b:=(57:UInt8)) u u) (lg a (q8 u i u) (lv (m9 u a u) (av u (i5 ?_)))))
    cases oi x
    exact qd ⟨d,u,l,kr⟩
   refine lu i (lu i (lg a (X8 u i u) (lv (m9 u a u) (av u (i5 ?_)))))
   cases oi x
   exact qd ⟨d,u,l,kr⟩
  refine lu f (lu f (lv (X8 u f u) (mv u (lg u (i4 u) (lg u (a4w (b:=(48:UInt8)) u u) (lg u (i4 u) (bt q (fun k y=>?_) (fun k y=>?_))))))))
  ·refine lg k (i4 u) (lg k (a4x (b:=(57:UInt8)) u u) (lg u (q8 u k u) (lv (m9 u u u) (av u (i5 ?_)))))
   cases oi y
   exact qd ⟨d,u,l,kr⟩
  refine lu k (lu k (lg u (X8 u k u) (lv (m9 u u u) (av u (i5 ?_)))))
  cases oi y
  exact qd ⟨d,u,l,kr⟩
 rintro _ V ⟨B,rfl,C,W⟩
 refine l4 (D0 R u (fun S A=>?_) (fun S A=>?_))
 ·refine sr (mv u (av u (nq (l7 (j4 (g6 ?_))))))
  cases oi A
  exact ey results109 ⟨B,u,C⟩
 refine i8 (q7 (qr (lv (r4 (v:=iv8 0) u) (nq (l7 ?_)))))
 cases oi A
 exact ey results109 ⟨B,u,C⟩

theorem a10 {q0:l3}{r:(List M3)}(hS:SH w K [] w K [])(bY:q0.length≤maxLen)(hm:O4 F q0=some r):
  Calls prog 58 #[sv q0] w fun e w'=>∃a_1 n_2 c_3 K',e= .returned (V3 a_1 n_2 c_3)∧SH w K [] w' K' [tail (V3 a_1 n_2 c_3) 114 4]∧b7 a2W K' a_1 n_2 c_3 r:=by
 rw [O4] at hm
 refine ci func58 u ntmps58 (sr (lv (r_n u) (nr (b0 a2W underlying110 a0p hS fun a2 w3 W ca aB aC=>(av u (Q9 (lv (R1 u) (nq ?_))))))))
 obtain⟨o8,h9,aF⟩:=ob hm
 refine j9 (fun E' w'=>∃B C D G,E'=[(3,V3 B C D)]∧SH w K [] w' G [tail (V3 B C D) 114 4]∧H7 W G∧b7 a2W G B C D o8) ?_ ?_
 ·refine i7 ?_
  obtain⟨cb,aG,aH⟩:=ob h9
  refine qw (fun (a:(List M3)×Int) E' w'=>∃c d f H,E'=[(0,sv q0),(3,V3 c d f),(4,V6 a.2)]∧SH w K [] w' H [tail (V3 c d f) 114 4]∧H7 W H∧b7 a2W H c d f a.1∧j5 a.2) aG ⟨a2,0,0,W,u,aC,kr,aB,R3⟩ ?_
  rintro a _ cc cd aI aJ ⟨c,d,f,H,rfl,ap,X,I,aq⟩
  refine n9 (sr (mv u (mv u (lv (F6 underlying9 u) (lv (o4 u u) (nq (D0 aI u (fun aK Y=>?_) (fun aK Y=>?_))))))))
  ·refine i8 (qs (i7 (sr (b0 tU8 underlying50 tf5 ap fun aL ce aa s aM aN=>(av u (nr (mv u (av u (ns ?_)))))))))
   obtain⟨k,aO,aP⟩:=ob Y
   refine j9 (fun E' w'=>∃J O R l,E'=[(0,sv q0),(3,V3 c d f),(4,V6 k.1),(5,V3 J O R),(6,V6 a.2)]∧SH w K [] w' l [tail (V3 c d f) 114 4,tail (V3 J O R) 5 1]∧H7 aa l∧j5 k.1∧b7 tU8 l J O R k.2) ?_ ?_
   ·refine i7 ?_
    obtain⟨cf,aQ,aR⟩:=ob aO
    refine qw (fun (S:Int×(List UInt8)) E' w'=>∃m o q x,E'=[(0,sv q0),(3,V3 c d f),(4,V6 S.1),(5,V3 m o q),(6,V6 a.2)]∧SH w K [] w' x [tail (V3 c d f) 114 4,tail (V3 m o q) 5 1]∧H7 aa x∧j5 S.1∧b7 tU8 x m o q S.2) aQ ⟨aL,0,0,aa,u,aN.f1,kr,aq,aM⟩ ?_
    rintro S _ cg ch aS aT ⟨m,o,q,x,rfl,ab,ar,aU,au⟩
    refine n9 (n9 ?_)
    obtain⟨aV,aW,aX⟩:=ob aS
    refine j9 (IV w K [] x [(0,sv q0),(3,V3 c d f),(4,V6 S.1),(5,V3 m o q),(6,V6 a.2),(26,.bool aV)] [tail (V3 c d f) 114 4,tail (V3 m o q) 5 1]) ?_ ?_
    ·refine j3 (mv u (mv u (lv (F6 underlying9 u) (lv (o4 u u) (mv u (bt aW (fun i ac=>?_) (fun i ac=>?_)))))))
     ·refine lg i (i4 u) (lg i (i4 u) ?_)
      obtain⟨aY,aZ,ba⟩:=ob ac
      refine lg i (I7 underlying9 u u aZ) ?_
      obtain⟨cj,bb,bc⟩:=ob ba
      refine A7 (wg u u i) u (A6 (vs:=[iv8 aY]) b5D u) (a2r F ab.enter0 bb) ?_
      rintro ck cl ⟨bd,rfl,aw⟩
      refine⟨_,u,?_⟩
      have be:=(ab.c0 aw).t2
      refine lg i (a8W (b:=(0:UInt8)) u u) (lv (q8 u i u) (i5 ?_))
      cases oi bc
      exact qd ⟨bd,u,be,aw.le⟩
     iterate 5 refine lu i ?_
     refine lv (X8 u i u) (i5 ?_)
     cases oi ac
     exact qd ⟨x,u,ab,kr⟩
    rintro _ cm ⟨bf,rfl,ad,V⟩
    refine l4 (D0 aX u (fun bg ae=>?_) (fun bg ae=>?_))
    ·refine i8 (l4 (i7 (sr (mv u (mv u (mv u ?_))))))
     obtain⟨cn,bh,bi⟩:=ob ae
     refine lv (I7 underlying9 u u bh) ?_
     obtain⟨af,bj,bk⟩:=ob bi
     refine lk b5D (a2r F ad.enter0 bj) ?_
     rintro cp cq ⟨cr,rfl,ag⟩
     have bl:=(ad.c0 ag).t2
     refine lb tU8 (iv8 af) [iv8 af] af underlying50 tf5 u bl fun ct cu cv ax bm bn=>?_
     obtain⟨cw,bo,bp⟩:=ob bk
     refine lp underlying50 tf5 (au.mono ((V.trans ag.le).trans ax)) bm bo bn.f2 fun bq br bs cx bu bv bx bz=>(av u (nq (j3 (mv u (lv (u6 u u) (av u (nb ?_)))))))
     cases oi bp
     exact qd ⟨_,u,bq,br,bs,bu,u,bz.f2.s,((((ar.trans V).trans ag.le).trans ax).trans bv),(s6 _),bx⟩
    refine p9 (c9 (c9 ?_))
    cases oi ae
    cases aT _ u
    refine j7 ?_
    cases oi aR
    exact qd ⟨m,o,q,bf,u,ad,(ar.trans V),aU,(au.mono V)⟩
   rintro _ cy ⟨J,O,R,l,rfl,ay,y,bA,ah⟩
   refine qs (sr (mv u (lv (p7 underlying50 u ah) (lv (E9 u u) (nq ?_)))))
   obtain⟨T,bB,bC⟩:=ob aP
   refine j9 (fun E' w'=>∃ai aj ak U,E'=[(0,sv q0),(3,V3 c d f),(4,V6 k.1),(5,V3 ai aj ak),(6,V6 a.2)]∧SH w K [] w' U [tail (V3 c d f) 114 4]∧H7 l U∧b7 tU8 U ai aj ak T) ?_ ?_
   ·refine D0 bB u (fun bD al=>?_) (fun bD al=>?_)
    ·refine j3 (mv u ?_)
     obtain⟨cz,bE,bF⟩:=ob al
     refine a7X (t:=tU8) wn u underlying50 tf5 u u ah bE fun bG bH bI bJ=>(av u (i5 ?_))
     cases oi bF
     exact qd ⟨bG,bH,bI,l,u,ay.s,kr,bJ⟩
    refine i8 ?_
    cases oi al
    exact qd ⟨J,O,R,l,u,ay.s,kr,ah⟩
   rintro _ cA ⟨ai,aj,ak,U,rfl,am,A,an⟩
   refine qr (mv u (lv (p7 underlying50 u an) (lv (E9 u u) (nq (D0 bC u (fun bK ao=>?_) (fun bK ao=>?_))))))
   ·refine j3 (mv u (mv u (lv (b6i underlying50 underlying5 underlying9 u an am) (mv u (lv (p7 underlying110 u (I.mono ((s.trans y).trans A))) (mv u (mv u (lv (C4 (cs:=#[sv T,V6 (a.1.length:Int),V6 a.2,V6 k.1]) b8b a0p u (by kernel_rfl)) (lb a2W (.agg #[sv T,V6 (a.1.length:Int),V6 a.2,V6 k.1]) [sv T,V6 (a.1.length:Int),V6 a.2,V6 k.1] (M3.mk T (a.1.length:Int) a.2 k.1) underlying110 a0p ⟨u,(b7.max an),(a2L (b7.max (I.mono ((s.trans y).trans A)))),aq,bA⟩ am fun cB cC cD az bL bM=>?_)))))))))
    obtain⟨cE,bN,bO⟩:=ob ao
    refine lp underlying110 a0p (b7.mono (((s.trans y).trans A).trans az) I) bL bN bM.f1 fun bP bQ bR cF bS bT bU bV=>(av u (nb (l4 (j3 (mv u (lv (u6 u u) (av u (i5 ?_))))))))
    cases oi bO
    exact qd ⟨_,u,bP,bQ,bR,bS,u,bV.s,(((((X.trans s).trans y).trans A).trans az).trans bT),bU,(s6 _)⟩
   refine i8 (q7 (l4 (j3 (mv u (lv (u6 u u) (av u (i5 ?_)))))))
   cases oi ao
   exact qd ⟨_,u,c,d,f,U,u,am,(((X.trans s).trans y).trans A),(I.mono ((s.trans y).trans A)),(s6 _)⟩
  refine p9 (c9 (c9 ?_))
  cases oi Y
  cases aJ _ u
  refine j7 ?_
  cases oi aH
  exact qd ⟨c,d,f,H,u,ap,X,I⟩
 rintro _ cG ⟨B,C,D,G,rfl,bW,cH,bX⟩
 refine qr (mv u (av u (nq (l7 ?_))))
 cases oi aF
 exact ey results58 ⟨B,C,D,G,u,bW,bX⟩

theorem a0F {q0:List l3}{q1:l3}{r:Bool}(hS:SH w K [] w K [])(o:b7 B3 K A a b q0)(X:q1.length≤maxLen)(hm:M8 F q0 q1=some r):
  Calls prog 60 #[V3 A a b,sv q1] w (R_b w K r):=by
 rw [M8] at hm
 refine ci func60 u ntmps60 (sr (lv (M7 u) (Q9 (lv (R1 u) (nq ?_)))))
 obtain⟨x,y,c⟩:=ob hm
 refine j9 (IE x w K [] K [] []) ?_ ?_
 ·refine i7 ?_
  obtain⟨Y,B,q⟩:=ob y
  refine qw (fun (i:Int)=>IW w K [] K [(0,V3 A a b),(1,sv q1),(5,V6 i)] [] (j5 i)) B ⟨K,u,hS,kr,R3⟩ ?_
  rintro i _ aa ab C s ⟨k,rfl,d,f,ac⟩
  refine n9 (sr (mv u (mv u (lv (p7 underlying22 u (o.mono f)) (lv (o4 u u) (nq (D0 C u (fun D l=>?_) (fun D l=>?_))))))))
  ·refine i8 (qs (i7 (sr (mv u (mv u ?_)))))
   obtain⟨G,H,I⟩:=ob l
   refine li underlying22 D8 (o.mono f) H fun J O ad R S=>?_
   obtain⟨rfl,ae⟩:=R
   have T:D7 _ J O [sv G]:=S
   refine lv (z2 D8 u d (T 0 _ u)) (mv u (lv (J4 u u) (nq (D0 I u (fun U m=>?_) (fun U m=>?_)))))
   ·refine sr (lv (r_t u) (nq (l7 (j4 (g6 (g6 ?_))))))
    cases oi m
    cases s _ u
    refine j4 (g6 ?_)
    cases oi q
    refine g6 ?_
    cases oi c
    exact ey results60 ⟨k,u,d⟩
   refine i8 (q7 (l4 (j3 (mv u (lv (u6 u u) (av u (i5 ?_)))))))
   cases oi m
   exact qd ⟨_,u,k,u,d,f,(s6 _)⟩
  refine p9 (c9 (c9 ?_))
  cases oi l
  cases s _ u
  refine j7 ?_
  cases oi q
  exact I6 ⟨_,k,u,u,d,f⟩ trivial
 rintro _ af ⟨s9,V,rfl,rfl,W,ah⟩
 have c:=D9 c
 refine qr (lv (M7 u) (nq (l7 ?_)))
 cases oi c
 exact ey results60 ⟨V,u,W⟩

theorem a4p {r:(List l3)}(hS:SH w K [] w K [])(hm:a0x F=some r):
  Calls prog 202 #[] w fun e w'=>∃a_1 n_2 c_3 K',e= .returned (V3 a_1 n_2 c_3)∧SH w K [] w' K' [tail (V3 a_1 n_2 c_3) 9 1]∧b7 B3 K' a_1 n_2 c_3 r:=by
 rw [a0x] at hm
 refine ci func202 u ntmps202 (sr (lv (r_n u) (nr (bw [[105,110,103],[101,100],[101,115],[108,121],[115]] underlying22 D8 hS fun a f b i c d=>(av u (nq (l7 ?_)))))))
 cases oi hm
 exact ey results202 ⟨a,5,5,b,u,d,c⟩

theorem a4q {q0:l3}{r:l3}(hS:SH w K [] w K [])(q:q0.length≤maxLen)(hm:N5 F q0=some r):
  Calls prog 160 #[sv q0] w fun e w'=>∃K',e= .returned (sv r)∧SH w K [] w' K' []∧r.length≤maxLen:=by
 rw [N5] at hm
 refine ci func160 u ntmps160 (sr (lv (r_s u) (Q9 (lv (R1 u) (nq ?_)))))
 obtain⟨I,J,b⟩:=ob hm
 refine j9 (IE I w K [] K [(0,sv q0)] []) ?_ ?_
 ·refine i7 ?_
  obtain⟨au,O,s⟩:=ob J
  refine qw (fun (c:Int)=>IW w K [] K [(0,sv q0),(3,V6 c)] [] (j5 c)) O ⟨K,u,hS,kr,R3⟩ ?_
  rintro c _ aw ax R x ⟨ay,rfl,y,A,az⟩
  refine n9 (sr (mv u ?_))
  obtain⟨aA,S,T⟩:=ob R
  refine lk b73 (a4p F y.enter0 S) ?_
  rintro aB aC ⟨aD,aE,aF,U,rfl,d,V⟩
  have f:=(y.c0 d).t1
  refine lv (p7 underlying22 u V) (lv (o4 u u) (nq (D0 T u (fun W i=>?_) (fun W i=>?_))))
  ·refine i8 (qs (i7 (sr ?_)))
   obtain⟨aG,X,Y⟩:=ob i
   refine lk b73 (a4p F f.enter0 X) ?_
   rintro aH aI ⟨aJ,aK,aL,k,rfl,B,aa⟩
   have l:=(f.c0 B).t2
   refine mv u ?_
   obtain⟨C,ab,ac⟩:=ob Y
   refine li underlying22 D8 aa ab fun ad ae aM af ag=>?_
   obtain⟨rfl,aN⟩:=af
   have ah:D7 _ ad ae [sv C]:=ag
   refine lv (z2 D8 u l (ah 0 _ u)) (av u (nr (mv u (lv (F6 underlying9 u) (mv u (lv (F6 underlying9 u) (lv (I8 u u) (av u (ns ?_)))))))))
   obtain⟨ai,aj,ak⟩:=ob ac
   refine j9 (IV w K [] k [(0,sv q0),(3,V6 c),(5,V6 (y8 ((q0.length:Int)-(C.length:Int)))),(29,.bool ai)] []) ?_ ?_
   ·refine j3 (mv u (lv (a2y u u) (mv u (bt aj (fun a m=>?_) (fun a m=>?_)))))
    ·refine lg a (i4 u) (lg a (i4 u) ?_)
     obtain⟨aO,al,am⟩:=ob m
     refine lg a (a1U underlying9 u u al) (lg a (i4 u) (lg a (J4 u u) (lv (q8 u a u) (i5 ?_))))
     cases oi am
     exact qd ⟨k,u,l.s,kr⟩
    iterate 5 refine lu a ?_
    refine lv (X8 u a u) (i5 ?_)
    cases oi m
    exact qd ⟨k,u,l.s,kr⟩
   rintro _ aP ⟨D,rfl,G,an⟩
   refine l4 (D0 ak u (fun ao o=>?_) (fun ao o=>?_))
   ·refine sr (mv u (mv u ?_))
    obtain⟨aQ,H,ap⟩:=ob o
    refine lv (b1U underlying9 u u H) (av u (nq (l7 (j4 (g6 (g6 ?_))))))
    cases oi ap
    cases x _ u
    refine j4 (g6 ?_)
    cases oi s
    refine g6 ?_
    cases oi b
    exact ey results160 ⟨D,u,G,(a1H q H)⟩
   refine i8 (q7 (l4 (j3 (mv u (lv (u6 u u) (av u (i5 ?_)))))))
   cases oi o
   exact qd ⟨_,u,D,u,G,(((A.trans d.le).trans B.le).trans an),(s6 _)⟩
  refine p9 (c9 (c9 ?_))
  cases oi i
  cases x _ u
  refine j7 ?_
  cases oi s
  exact qd ⟨_,U,u,u,f.s,(A.trans d.le)⟩
 rintro _ w9 ⟨s5,K6,rfl,rfl,ar,aT⟩
 have b:=D9 b
 refine qr (mv u (av u (nq (l7 ?_))))
 cases oi b
 exact ey results160 ⟨K6,u,ar,q⟩

theorem Z5 {q0:l3}{r:l3}(hS:SH w K [] w K [])(o:q0.length≤maxLen)(hm:R0 F q0=some r):
  Calls prog 114 #[sv q0] w fun e w'=>∃K',e= .returned (sv r)∧SH w K [] w' K' []∧r.length≤maxLen:=by
 rw [R0] at hm
 refine ci func114 u ntmps114 (sr (lv (r_s u) (ns ?_)))
 obtain⟨i,q,s⟩:=ob hm
 refine j9 (IW w K [] K [(0,sv i)] [] (i.length≤maxLen)) ?_ ?_
 ·refine i7 ?_
  obtain⟨W,x,y⟩:=ob q
  refine qw (fun (a:l3)=>IW w K [] K [(0,sv a)] [] (a.length≤maxLen)) x ⟨K,u,hS,kr,o⟩ ?_
  rintro a _ X Y A B ⟨aa,rfl,k,l,b⟩
  refine n9 (sr (mv u ?_))
  obtain⟨ab,C,D⟩:=ob A
  refine lk b7Y (a4q F k.enter0 b C) ?_
  rintro ac ad ⟨G,rfl,c,ae⟩
  have d:=(k.c0 c).t0
  refine mv u (lv (X9 u u) (nq (D0 D u (fun H f=>?_) (fun H f=>?_))))
  ·refine i8 (l4 (i7 (j3 (mv u ?_))))
   obtain⟨af,I,J⟩:=ob f
   refine lk b7Y (a4q F d.enter0 b I) ?_
   rintro ag ah ⟨O,rfl,m,R⟩
   have S:=(d.c0 m).t0
   refine av u (nb ?_)
   cases oi J
   exact qd ⟨_,u,O,u,S,((l.trans c.le).trans m.le),R⟩
  refine p9 (c9 (c9 ?_))
  cases oi f
  cases B _ u
  refine j7 ?_
  cases oi y
  exact qd ⟨G,u,d,(l.trans c.le),b⟩
 rintro _ w7 ⟨T,rfl,U,aj,V⟩
 refine qr (mv u (av u (nq (l7 ?_))))
 cases oi s
 exact ey results114 ⟨T,u,U,V⟩

theorem a7A {q0:o0}{q1:l3}{r:(List w8)}(hS:SH w K [] w K [])(ac:b7 B3 K A a b q0.Stops)(bQ:b7 G5 K B c d q0.Syns)(ak:q1.length≤maxLen)(hm:Y6 F q0 q1=some r):
  Calls prog 110 #[.agg #[V3 A a b,V3 B c d],sv q1] w fun e w'=>∃a_1 n_2 c_3 K',e= .returned (V3 a_1 n_2 c_3)∧SH w K [] w' K' [tail (V3 a_1 n_2 c_3) 104 2]∧b7 G2 K' a_1 n_2 c_3 r:=by
 rw [Y6] at hm
 refine ci func110 u ntmps110 (sr (bx u hS fun s bR al=>?_))
 have am:SH _ _ _ _ _ [r5 s [V3 A a b,V3 B c d] 38]:=al
 refine lv (r_n u) (nr (b0 G2 underlying101 E3 am fun an bS bT ad ao ae=>(av u (nr (mv u ?_)))))
 obtain⟨bU,ap,aq⟩:=ob hm
 refine lk b8u (a10 F ae.enter0 ak ap) ?_
 rintro bV bW ⟨af,ag,ah,V,rfl,O,R⟩
 have ar:=(ae.c0 O).t3
 refine av u (Q9 (lv (R1 u) (nq ?_)))
 obtain⟨au,aw,ax⟩:=ob aq
 refine j9 (fun E' w'=>∃x y C D,E'=[(5,V3 x y C)]∧SH w K [] w' D [tail (V3 x y C) 104 2]∧H7 V D∧b7 G2 D x y C au) ?_ ?_
 ·refine i7 ?_
  obtain⟨bX,ay,az⟩:=ob aw
  have aA:=ar.f1.f2.sb (sk (sk (sd sz)))
  refine qw (fun (G:(List w8)×Int) E' w'=>∃l m o H,E'=[(2,pt s),(5,V3 l m o),(6,V3 af ag ah),(7,V6 G.2)]∧SH w K [] w' H [r5 s [V3 A a b,V3 B c d] 38,tail (V3 l m o) 104 2]∧H7 V H∧b7 G2 H l m o G.1∧j5 G.2) ay ⟨an,0,0,V,u,aA,kr,(ao.mono O.le),R3⟩ ?_
  rintro G _ bY bZ aB aC ⟨l,m,o,H,rfl,S,f,W,ca⟩
  refine n9 (sr (mv u (mv u (lv (p7 underlying110 u (R.mono f)) (lv (o4 u u) (nq (D0 aB u (fun aD X=>?_) (fun aD X=>?_))))))))
  ·refine i8 (qs (i7 (sr (mv u (mv u ?_)))))
   obtain⟨T,aE,aF⟩:=ob X
   refine li underlying110 a0p (R.mono f) aE fun aG aH cb aI aJ=>?_
   obtain⟨rfl,aK,cc,cd,ce⟩:=aI
   have aL:D7 _ aG aH [sv T.Text,V6 T.At,V6 T.From,V6 T.To]:=aJ
   refine fa a5S u (lv (z2 D8 u S (aL 0 _ u)) ?_)
   obtain⟨I,aM,aN⟩:=ob aF
   refine lk b5E (Z5 F S.enter0 aK aM) ?_
   rintro cf cg ⟨aO,rfl,i,ai⟩
   have aP:=(S.c0 i).t2
   refine av u (ns ?_)
   obtain⟨aQ,aR,aS⟩:=ob aN
   refine j9 (IV w K [] aO [(2,pt s),(5,V3 l m o),(6,V3 af ag ah),(7,V6 G.2),(8,sv I),(39,.bool aQ)] [r5 s [V3 A a b,V3 B c d] 38,tail (V3 l m o) 104 2]) ?_ ?_
   ·refine D3 mixed (by kernel_rfl) aP (kv (c7 a0M u) (kh (u9 W1 u m0 u) (km u (km u ?_))))
    obtain⟨U,aT,aU⟩:=ob aR
    refine ki underlying110 a0p (R.mono (f.trans i.le)) aT fun aV aW ch aX aY=>?_
    obtain⟨rfl,aZ,cj,ck,cl⟩:=aX
    have ba:D7 _ aV aW [sv U.Text,V6 U.At,V6 U.From,V6 U.To]:=aY
    refine kv (c7 a5S u) (kh (z7 D8 u (ba 0 _ u)) ?_)
    obtain⟨cm,bb,bc⟩:=ob aU
    refine kc b5K (fun _ _ bd be=>(a0F F) bd.enter0 (b7.mono ((((ad.trans O.le).trans f).trans i.le).trans be) ac) aZ bb) (kv (y3 u) (km u (bt bc (fun k Y=>?_) (fun k Y=>?_))))
    ·refine kg k (c7 a0M u) (kgh k (u9 W1 u m0 u) (kg k (i4 u) ?_))
     obtain⟨cn,bf,bg⟩:=ob Y
     refine kcg k b5K (fun _ _ bh bi=>(a0F F) bh.enter0 (b7.mono ((((ad.trans O.le).trans f).trans i.le).trans bi) ac) ai bf) (kg k (y3 u) (kv (q8 u k u) (A3 ?_)))
     rintro cp ⟨bj,bk,bl⟩
     cases oi bg
     exact qd ⟨bj,u,bk,bl⟩
    iterate 5 refine kn k ?_
    refine kv (X8 u k u) (A3 ?_)
    rintro cq ⟨bm,bn,bo⟩
    cases oi Y
    exact qd ⟨bm,u,bn,bo⟩
   rintro _ cr ⟨bp,rfl,aa,J⟩
   refine l4 (D0 aS u (fun bq ab=>?_) (fun bq ab=>?_))
   ·refine j3 (mv u (mv u (mv u (mv u ?_))))
    obtain⟨q,br,bs⟩:=ob ab
    refine li underlying110 a0p (R.mono ((f.trans i.le).trans J)) br fun bu bv ct bz bA=>?_
    obtain⟨rfl,cu,bB,cv,cw⟩:=bz
    have bC:D7 _ bu bv [sv q.Text,V6 q.At,V6 q.From,V6 q.To]:=bA
    refine fa b3r u (lv (z2 G4 u aa (bC 1 _ u)) (lv (C4 (cs:=#[sv I,V6 q.At]) b31 E3 u (by kernel_rfl)) (lb G2 (.agg #[sv I,V6 q.At]) [sv I,V6 q.At] (w8.mk I q.At) underlying101 E3 ⟨u,ai,bB⟩ aa fun cx cy cz aj bD bE=>?_)))
    obtain⟨cA,bF,bG⟩:=ob bs
    refine lp underlying101 E3 (W.mono ((i.le.trans J).trans aj)) bD bF bE.f2 fun bH bI bJ cB bK bL bM bN=>(av u (nb (l4 (j3 (mv u (lv (u6 u u) (av u (i5 ?_))))))))
    cases oi bG
    exact qd ⟨_,u,bH,bI,bJ,bK,u,bN.f2.s,((((f.trans i.le).trans J).trans aj).trans bL),bM,(s6 _)⟩
   refine i8 (q7 (l4 (j3 (mv u (lv (u6 u u) (av u (i5 ?_)))))))
   cases oi ab
   exact qd ⟨_,u,l,m,o,bp,u,aa,((f.trans i.le).trans J),(W.mono (i.le.trans J)),(s6 _)⟩
  refine p9 (c9 (c9 ?_))
  cases oi X
  cases aC _ u
  refine j7 ?_
  cases oi az
  exact qd ⟨l,m,o,H,u,S.s,f,W⟩
 rintro _ cC ⟨x,y,C,D,rfl,bO,cD,bP⟩
 refine qr (mv u (av u (nq (l7 ?_))))
 cases oi ax
 exact ey results110 ⟨x,y,C,D,u,bO,bP⟩

theorem U1 {q0:Int}{q1:Int}{q2:Int}{r:Bool}(hS:SH w K [] w K [])(c:j5 q0)(d:j5 q1)(f:j5 q2)(hm:G9 F q0 q1 q2=some r):
  Calls prog 107 #[V6 q0,V6 q1,V6 q2] w (R_b w K r):=by
 rw [G9] at hm
 refine ci func107 u ntmps107 (sr (lv (M7 u) (nr (mv u (mv u (lv (a2y u u) (mv u (bt hm (fun a b=>?_) (fun a b=>?_)))))))))
 ·refine lg a (i4 u) (lg a (i4 u) (lg a (U4 u u) (lv (q8 u a u) (av u (nq (l7 ?_))))))
  cases oi b
  exact ey results107 ⟨K,u,hS⟩
 refine lu a (lu a (lu a (lv (X8 u a u) (av u (nq (l7 ?_))))))
 cases oi b
 exact ey results107 ⟨K,u,hS⟩

theorem N7 {q0:l3}{r:Bool}(hS:SH w K [] w K [])(B:q0.length≤maxLen)(hm:E7 F q0=some r):
  Calls prog 105 #[sv q0] w (R_b w K r):=by
 rw [E7] at hm
 refine ci func105 u ntmps105 (sr (lv (M7 u) (Q9 (lv (R1 u) (nq ?_)))))
 obtain⟨C,D,c⟩:=ob hm
 refine j9 (IE C w K [] K [(0,sv q0)] []) ?_ ?_
 ·refine i7 ?_
  obtain⟨ap,G,l⟩:=ob D
  refine qw (fun (d:Int)=>IW w K [] K [(0,sv q0),(3,V6 d)] [] (j5 d)) G ⟨K,u,hS,kr,R3⟩ ?_
  rintro d _ aq ar H m ⟨o,rfl,q,s,au⟩
  refine n9 (sr (mv u (mv u (lv (F6 underlying9 u) (lv (o4 u u) (nq (D0 H u (fun I f=>?_) (fun I f=>?_))))))))
  ·refine i8 (qs (i7 (n9 ?_)))
   obtain⟨J,O,R⟩:=ob f
   refine j9 (IV w K [] o [(0,sv q0),(3,V6 d),(23,.bool J)] []) ?_ ?_
   ·refine D3 mixed (by kernel_rfl) q (km u (km u ?_))
    obtain⟨aw,S,T⟩:=ob O
    refine kv (I7 underlying9 u u S) ?_
    obtain⟨ax,U,V⟩:=ob T
    refine kc b5D (fun _ _ W ay=>(a2r F) W.enter0 U) (km u (km u ?_))
    obtain⟨az,X,Y⟩:=ob V
    refine kv (I7 underlying9 u u X) (kv (a8W u u) (km u (bt Y (fun a i=>?_) (fun a i=>?_))))
    ·refine kn a (kn a (kn a (kn a (kv (L1 u a u) (A3 ?_)))))
     rintro aA ⟨aa,ab,ac⟩
     cases oi i
     exact qd ⟨aa,u,ab,ac⟩
    refine kg a (i4 u) (kg a (i4 u) ?_)
    obtain⟨aB,ad,ae⟩:=ob i
    refine kg a (I7 underlying9 u u ad) (kg a (a8V (b:=(0:UInt8)) u u) (kv (m9 u a u) (A3 ?_)))
    rintro aC ⟨af,ag,ah⟩
    cases oi ae
    exact qd ⟨af,u,ag,ah⟩
   rintro _ aD ⟨x,rfl,y,ai⟩
   refine l4 (D0 R u (fun aj k=>?_) (fun aj k=>?_))
   ·refine sr (lv (M7 u) (nq (l7 (j4 (g6 (g6 ?_))))))
    cases oi k
    cases m _ u
    refine j4 (g6 ?_)
    cases oi l
    refine g6 ?_
    cases oi c
    exact ey results105 ⟨x,u,y⟩
   refine i8 (q7 (l4 (j3 (mv u (lv (u6 u u) (av u (i5 ?_)))))))
   cases oi k
   exact qd ⟨_,u,x,u,y,(s.trans ai),(s6 _)⟩
  refine p9 (c9 (c9 ?_))
  cases oi f
  cases m _ u
  refine j7 ?_
  cases oi l
  exact qd ⟨_,o,u,u,q,s⟩
 rintro _ w9 ⟨s5,K6,rfl,rfl,A,aH⟩
 have c:=D9 c
 refine qr (mv u (lv (F6 underlying9 u) ?_))
 obtain⟨aI,ak,al⟩:=ob c
 refine lk a8b (U1 F A.enter0 (a2L B) (by decide :j5 1) (by decide :j5 12) ak) ?_
 rintro aJ aK ⟨am,rfl,an⟩
 have ao:=(A.c0 an).t0
 refine av u (nq (l7 ?_))
 cases oi al
 exact ey results105 ⟨am,u,ao⟩

theorem a58 {q0:o0}{r:Bool}(hS:SH w K [] w K [])(G:b7 B3 K A a b q0.Stops)(ae:b7 G5 K B c d q0.Syns)(hm:a0P F q0=some r):
  Calls prog 66 #[.agg #[V3 A a b,V3 B c d]] w (R_b w K r):=by
 rw [a0P] at hm
 refine ci func66 u ntmps66 (sr (bx u hS fun f dV aU=>?_))
 have aV:SH _ _ _ _ _ [r5 f [V3 A a b,V3 B c d] 38]:=aU
 refine lv (M7 u) (Q9 (lv (R1 u) (nq ?_)))
 obtain⟨aW,aX,W⟩:=ob hm
 refine j9 (IE aW w K [] K [(1,pt f)] [r5 f [V3 A a b,V3 B c d] 38]) ?_ ?_
 ·refine i7 ?_
  obtain⟨dW,aY,aC⟩:=ob aX
  refine qw (fun (X:Int)=>IW w K [] K [(1,pt f),(3,V6 X)] [r5 f [V3 A a b,V3 B c d] 38] (j5 X)) aY ⟨K,u,aV,kr,R3⟩ ?_
  rintro X _ dX dY aZ aD ⟨aE,rfl,af,H,dZ⟩
  refine n9 (sr (mv u (fl a0M u W1 m0 af u (lv (p7 underlying22 u (G.mono H)) (lv (o4 u u) (nq (D0 aZ u (fun ba ag=>?_) (fun ba ag=>?_))))))))
  ·refine i8 (qs (i7 (n9 ?_)))
   obtain⟨bb,bc,bd⟩:=ob ag
   refine j9 (IV w K [] aE [(1,pt f),(3,V6 X),(38,.bool bb)] [r5 f [V3 A a b,V3 B c d] 38]) ?_ ?_
   ·refine D3 mixed (by kernel_rfl) af (kv (c7 a0M u) (kh (u9 W1 u m0 u) (km u ?_)))
    obtain⟨be,bf,bg⟩:=ob bc
    refine ki underlying22 D8 (G.mono H) bf fun bh bi ea bj bk=>?_
    obtain⟨rfl,bl⟩:=bj
    have bm:D7 _ bh bi [sv be]:=bk
    refine kh (z7 D8 u (bm 0 _ u)) ?_
    obtain⟨eb,bn,bo⟩:=ob bg
    refine kc a9A (fun _ _ bp ec=>(N7 F) bp.enter0 bl bn) (kv (y3 u) (km u (bt bo (fun l ah=>?_) (fun l ah=>?_))))
    ·refine kn l (kn l (kn l ?_))
     iterate 12 refine ku ?_
     refine kn l (kv (L1 u l u) (A3 ?_))
     rintro ed ⟨bq,br,bs⟩
     cases oi ah
     exact qd ⟨bq,u,br,bs⟩
    refine kg l (i4 u) (kg l (E9 u u) (kg l (i4 u) (bt ah (fun i ai=>?_) (fun i ai=>?_))))
    ·refine kg i (c7 a0M u) (kgh i (u9 W1 u m0 u) (kg i (i4 u) ?_))
     obtain⟨bu,bv,bz⟩:=ob ai
     refine A8 (t:=B3) (wg u u i) u underlying22 D8 u u (G.mono H) bv fun bA bB ee bC bD=>?_
     obtain⟨rfl,ef⟩:=bC
     have bE:D7 _ bA bB [sv bu]:=bD
     refine kgh i (z7 D8 u (bE 0 _ u)) (kg i (c7 a0M u) (kgh i (u9 W1 u m0 u) (kg i (i4 u) (kg i (I8 u u) ?_))))
     obtain⟨bF,bG,bH⟩:=ob bz
     refine A8 (t:=B3) (wg u u i) u underlying22 D8 u u (G.mono H) bG fun bI bJ eg bK bL=>?_
     obtain⟨rfl,eh⟩:=bK
     have bM:D7 _ bI bJ [sv bF]:=bL
     refine kgh i (z7 D8 u (bM 0 _ u)) (kg i (b0R u u) (kg l (q8 u i u) (kv (m9 u l u) (A3 ?_))))
     rintro ei ⟨bN,bO,bP⟩
     cases oi bH
     exact qd ⟨bN,u,bO,bP⟩
    iterate 12 refine kn i ?_
    refine kg l (X8 u i u) (kv (m9 u l u) (A3 ?_))
    rintro ej ⟨bQ,bR,bS⟩
    cases oi ai
    exact qd ⟨bQ,u,bR,bS⟩
   rintro _ ek ⟨aF,rfl,aG,bT⟩
   refine l4 (D0 bd u (fun bU aj=>?_) (fun bU aj=>?_))
   ·refine sr (lv (M7 u) (nq (l7 (j4 (g6 (g6 ?_))))))
    cases oi aj
    cases aD _ u
    refine j4 (g6 ?_)
    cases oi aC
    refine g6 ?_
    cases oi W
    exact ey results66 ⟨aF,u,aG.s⟩
   refine i8 (q7 (l4 (j3 (mv u (lv (u6 u u) (av u (i5 ?_)))))))
   cases oi aj
   exact qd ⟨_,u,aF,u,aG,(H.trans bT),(s6 _)⟩
  refine p9 (c9 (c9 ?_))
  cases oi ag
  cases aD _ u
  refine j7 ?_
  cases oi aC
  exact qd ⟨_,aE,u,u,af,H⟩
 rintro _ el ⟨em,ak,rfl,rfl,bV,I⟩
 have W:=D9 W
 refine qs (sr (lv (R1 u) (nq ?_)))
 obtain⟨bW,bX,J⟩:=ob W
 refine j9 (IE bW w K [] ak [(1,pt f)] [r5 f [V3 A a b,V3 B c d] 38]) ?_ ?_
 ·refine i7 ?_
  obtain⟨en,bY,am⟩:=ob bX
  refine qw (fun (y:Int)=>IW w K [] ak [(1,pt f),(4,V6 y)] [r5 f [V3 A a b,V3 B c d] 38] (j5 y)) bY ⟨ak,u,bV,kr,R3⟩ ?_
  rintro y _ eo ep bZ an ⟨Y,rfl,O,R,eq⟩
  refine n9 (sr (mv u (fl a0N u a5B m0 O u (lv (p7 underlying36 u (ae.mono (I.trans R))) (lv (o4 u u) (nq (D0 bZ u (fun ca ao=>?_) (fun ca ao=>?_))))))))
  ·refine i8 (qs (i7 (sr (fl a0N u a5B m0 O u (mv u ?_)))))
   obtain⟨S,cb,cc⟩:=ob ao
   refine li underlying36 a0T (ae.mono (I.trans R)) cb fun cd ce es cf cg=>?_
   obtain⟨T,U,V,rfl,C,ap⟩:=cf
   have ch:D7 _ cd ce [V3 T U V,sv S.To]:=cg
   refine lv (C9 a0T u O ch u) (al a0T O fun D et cj=>?_)
   have ck:SH _ _ _ _ _ [r5 D [V3 none 0 0,sv []] 128,_]:=cj
   refine lw [V3 T U V,sv S.To] a0T ck fun eu cl=>(Q9 (lv (R1 u) (nq ?_)))
   obtain⟨cm,cn,aa⟩:=ob cc
   refine j9 (IE cm w K [] Y [(1,pt f),(4,V6 y),(5,pt D)] [r5 f [V3 A a b,V3 B c d] 38,r5 D [V3 T U V,sv S.To] 128]) ?_ ?_
   ·refine i7 ?_
    obtain⟨ev,cp,aH⟩:=ob cn
    refine qw (fun (ab:Int)=>IW w K [] Y [(1,pt f),(4,V6 y),(5,pt D),(6,V6 ab)] [r5 f [V3 A a b,V3 B c d] 38,r5 D [V3 T U V,sv S.To] 128] (j5 ab)) cp ⟨Y,u,cl.f1,kr,R3⟩ ?_
    rintro ab _ ew ex cq aI ⟨aJ,rfl,ac,x,eA⟩
    refine n9 (sr (mv u (fl Q5 u W1 m1 ac u (lv (p7 underlying22 u (C.mono x)) (lv (o4 u u) (nq (D0 cq u (fun cr aq=>?_) (fun cr aq=>?_))))))))
    ·refine i8 (qs (i7 (n9 ?_)))
     obtain⟨cs,ct,cu⟩:=ob aq
     refine j9 (IV w K [] aJ [(1,pt f),(4,V6 y),(5,pt D),(6,V6 ab),(88,.bool cs)] [r5 f [V3 A a b,V3 B c d] 38,r5 D [V3 T U V,sv S.To] 128]) ?_ ?_
     ·refine D3 mixed (by kernel_rfl) ac (kv (c7 Q5 u) (kh (u9 W1 u m1 u) (km u ?_)))
      obtain⟨cv,cw,cx⟩:=ob ct
      refine ki underlying22 D8 (C.mono x) cw fun cy cz eB cA cB=>?_
      obtain⟨rfl,cC⟩:=cA
      have cD:D7 _ cy cz [sv cv]:=cB
      refine kh (z7 D8 u (cD 0 _ u)) ?_
      obtain⟨eC,cE,cF⟩:=ob cx
      refine kc a9A (fun _ _ cG eD=>(N7 F) cG.enter0 cC cE) (kv (y3 u) (km u (bt cF (fun k ar=>?_) (fun k ar=>?_))))
      ·iterate 12 refine kn k ?_
       refine kv (L1 u k u) (km u ?_)
       iterate 8 refine qv u u u u ?_
       refine kv (L1 u u u) (A3 ?_)
       rintro eE ⟨cH,cI,cJ⟩
       cases oi ar
       exact qd ⟨cH,u,cI,cJ⟩
      refine kg k (c7 Q5 u) (kgh k (u9 W1 u m1 u) (kg k (i4 u) ?_))
      obtain⟨cK,cL,cM⟩:=ob ar
      refine A8 (t:=B3) (wg u u k) u underlying22 D8 u u (C.mono x) cL fun cN cO eF cP cQ=>?_
      obtain⟨rfl,aK⟩:=cP
      have cR:D7 _ cN cO [sv cK]:=cQ
      refine kgh k (z7 D8 u (cR 0 _ u)) ?_
      obtain⟨eG,aL,cS⟩:=ob cM
      refine kdg k b5E (fun _ _ cT eH=>(Z5 F) cT.enter0 aK aL) ?_
      obtain⟨_,_,_,⟨_,_,_,eI⟩,_⟩:=(Z5 F) ac.enter0 aK aL []
      refine kg k (c7 Q5 u) (kgh k (u9 W1 u m1 u) (kg k (i4 u) ?_))
      obtain⟨cU,cV,cW⟩:=ob cS
      refine A8 (t:=B3) (wg u u k) u underlying22 D8 u u (C.mono x) cV fun cX cY eJ cZ da=>?_
      obtain⟨rfl,eK⟩:=cZ
      have db:D7 _ cX cY [sv cU]:=da
      refine kgh k (z7 D8 u (db 0 _ u)) (kg k (X9 u u) (kv (m9 u k u) (km u (bt cW (fun m au=>?_) (fun m au=>?_)))))
      ·iterate 8 refine kn m ?_
       refine kv (L1 u m u) (A3 ?_)
       rintro eL ⟨dc,dd,de⟩
       cases oi au
       exact qd ⟨dc,u,dd,de⟩
      refine kg m (c7 a0M u) (kgh m (u9 W1 u m0 u) (kg m (c7 Q5 u) (kgh m (u9 W1 u m1 u) (kg m (i4 u) ?_))))
      obtain⟨df,dg,dh⟩:=ob au
      refine A8 (t:=B3) (wg u u m) u underlying22 D8 u u (C.mono x) dg fun di dj eM dk dl=>?_
      obtain⟨rfl,dm⟩:=dk
      have dn:D7 _ di dj [sv df]:=dl
      refine kgh m (z7 D8 u (dn 0 _ u)) ?_
      obtain⟨eN,dp,dq⟩:=ob dh
      refine kcg m b5K (fun _ _ dr ds=>(a0F F) dr.enter0 (b7.mono (((I.trans R).trans x).trans ds) G) dm dp) (kv (m9 u m u) (A3 ?_))
      rintro eO ⟨dt,du,dv⟩
      cases oi dq
      exact qd ⟨dt,u,du,dv⟩
     rintro _ eP ⟨aM,rfl,aN,dw⟩
     refine l4 (D0 cu u (fun dx aw=>?_) (fun dx aw=>?_))
     ·refine sr (lv (M7 u) (nq (l7 (j4 (g6 (g6 ?_))))))
      cases oi aw
      cases aI _ u
      refine j4 (g6 ?_)
      cases oi aH
      refine g6 (j4 (g6 (g6 ?_)))
      cases oi aa
      cases an _ u
      refine j4 (g6 ?_)
      cases oi am
      refine g6 ?_
      cases oi J
      exact ey results66 ⟨aM,u,aN.s⟩
     refine i8 (q7 (l4 (j3 (mv u (lv (u6 u u) (av u (i5 ?_)))))))
     cases oi aw
     exact qd ⟨_,u,aM,u,aN,(x.trans dw),(s6 _)⟩
    refine p9 (c9 (c9 ?_))
    cases oi aq
    cases aI _ u
    refine j7 ?_
    cases oi aH
    exact qd ⟨_,aJ,u,u,ac,x⟩
   rintro _ eQ ⟨eR,dy,rfl,rfl,aO,ax⟩
   have aa:=D9 aa
   refine qs ?_
   obtain⟨dz,dA,dB⟩:=ob aa
   refine j9 (IV w K [] dy [(1,pt f),(4,V6 y),(107,.bool dz)] [r5 f [V3 A a b,V3 B c d] 38]) ?_ ?_
   ·refine D3 mixed (by kernel_rfl) aO (kv (c7 Q5 u) (kh (u9 W1 u m1 u) (kv (p7 underlying22 u (C.mono ax)) ?_)))
    obtain⟨eS,dC,dD⟩:=ob dA
    refine kc a8b (fun _ _ dE eT=>(U1 F) dE.enter0 (C.mono ax).rn (by decide :j5 1) (by decide :j5 3) dC) (kv (y3 u) (km u (bt dD (fun o ay=>?_) (fun o ay=>?_))))
    ·refine kn o (kn o (kn o (kn o (kv (L1 u o u) (km u ?_)))))
     iterate 6 refine qv u u u u ?_
     refine kv (L1 u u u) (A3 ?_)
     rintro eU ⟨dF,dG,dH⟩
     cases oi ay
     exact qd ⟨dF,u,dG.s,dH⟩
    refine kg o (c7 a2G u) (kgh o (u9 D8 u m1 u) ?_)
    obtain⟨eV,dI,dJ⟩:=ob ay
    refine kcg o a9A (fun _ _ dK eW=>(N7 F) dK.enter0 ap dI) (kg o (y3 u) (kv (m9 u o u) (km u (bt dJ (fun s az=>?_) (fun s az=>?_)))))
    ·iterate 6 refine kn s ?_
     refine kv (L1 u s u) (A3 ?_)
     rintro eX ⟨dL,dM,dN⟩
     cases oi az
     exact qd ⟨dL,u,dM.s,dN⟩
    refine kg s (c7 a2G u) (kgh s (u9 D8 u m1 u) ?_)
    obtain⟨eY,aP,dO⟩:=ob az
    refine kdg s b5E (fun _ _ dP eZ=>(Z5 F) dP.enter0 ap aP) ?_
    obtain⟨_,_,_,⟨_,_,_,fb⟩,_⟩:=(Z5 F) aO.enter0 ap aP []
    refine kg s (c7 a2G u) (kgh s (u9 D8 u m1 u) (kg s (X9 u u) (kv (m9 u s u) (A3 ?_))))
    rintro fc ⟨dQ,dR,dS⟩
    cases oi dO
    exact qd ⟨dQ,u,dR.s,dS⟩
   rintro _ fd ⟨aQ,rfl,aR,dT⟩
   refine l4 (D0 dB u (fun dU aA=>?_) (fun dU aA=>?_))
   ·refine sr (lv (M7 u) (nq (l7 (j4 (g6 (g6 ?_))))))
    cases oi aA
    cases an _ u
    refine j4 (g6 ?_)
    cases oi am
    refine g6 ?_
    cases oi J
    exact ey results66 ⟨aQ,u,aR.s⟩
   refine i8 (q7 (l4 (j3 (mv u (lv (u6 u u) (av u (i5 ?_)))))))
   cases oi aA
   exact qd ⟨_,u,aQ,u,aR,((R.trans ax).trans dT),(s6 _)⟩
  refine p9 (c9 (c9 ?_))
  cases oi ao
  cases an _ u
  refine j7 ?_
  cases oi am
  exact qd ⟨_,Y,u,u,O,R⟩
 rintro _ fe ⟨fg,aS,rfl,rfl,ad,aT⟩
 have J:=D9 J
 refine qr (fl a0M u W1 m0 ad u (lv (p7 underlying22 u (G.mono (I.trans aT))) (lv (U4 u u) (mv u (bt J (fun q aB=>?_) (fun q aB=>?_))))))
 ·refine lg q (c7 a0N u) (lg q (x8 a5B u m0 ad u) (lg q (p7 underlying36 u (ae.mono (I.trans aT))) (lg q (U4 u u) (lv (q8 u q u) (av u (nq (l7 ?_)))))))
  cases oi aB
  exact ey results66 ⟨aS,u,ad.s⟩
 refine lu q (lu q (lu q (lu q (lv (X8 u q u) (av u (nq (l7 ?_)))))))
 cases oi aB
 exact ey results66 ⟨aS,u,ad.s⟩

theorem a4o {q0:l3}{r:Bool}(hS:SH w K [] w K [])(Y:q0.length≤maxLen)(hm:W5 F q0=some r):
  Calls prog 106 #[sv q0] w (R_b w K r):=by
 rw [W5] at hm
 refine ci func106 u ntmps106 (sr (lv (M7 u) (Q9 (lv (R1 u) (nq ?_)))))
 obtain⟨A,B,c⟩:=ob hm
 refine j9 (IE A w K [] K [(0,sv q0)] []) ?_ ?_
 ·refine i7 ?_
  obtain⟨aa,C,o⟩:=ob B
  refine qw (fun (d:Int)=>IW w K [] K [(0,sv q0),(3,V6 d)] [] (j5 d)) C ⟨K,u,hS,kr,R3⟩ ?_
  rintro d _ ab ac D q ⟨f,rfl,i,s,ad⟩
  refine n9 (sr (mv u (mv u (lv (F6 underlying9 u) (lv (o4 u u) (nq (D0 D u (fun G k=>?_) (fun G k=>?_))))))))
  ·refine i8 (qs (i7 (n9 ?_)))
   obtain⟨H,I,J⟩:=ob k
   refine j9 (IV w K [] f [(0,sv q0),(3,V6 d),(19,.bool H)] []) ?_ ?_
   ·refine j3 (mv u (mv u ?_))
    obtain⟨ae,O,R⟩:=ob I
    refine lv (I7 underlying9 u u O) (lv (b79 (b:=(32:UInt8)) u u) (mv u (bt R (fun a l=>?_) (fun a l=>?_))))
    ·refine lu a (lu a (lu a (lu a (lv (L1 u a u) (i5 ?_)))))
     cases oi l
     exact qd ⟨f,u,i,kr⟩
    refine lg a (i4 u) (lg a (i4 u) ?_)
    obtain⟨af,S,T⟩:=ob l
    refine lg a (I7 underlying9 u u S) (lg a (b78 (b:=(126:UInt8)) u u) (lv (m9 u a u) (i5 ?_)))
    cases oi T
    exact qd ⟨f,u,i,kr⟩
   rintro _ ag ⟨x,rfl,y,U⟩
   refine l4 (D0 J u (fun V m=>?_) (fun V m=>?_))
   ·refine sr (lv (M7 u) (nq (l7 (j4 (g6 (g6 ?_))))))
    cases oi m
    cases q _ u
    refine j4 (g6 ?_)
    cases oi o
    refine g6 ?_
    cases oi c
    exact ey results106 ⟨x,u,y⟩
   refine i8 (q7 (l4 (j3 (mv u (lv (u6 u u) (av u (i5 ?_)))))))
   cases oi m
   exact qd ⟨_,u,x,u,y,(s.trans U),(s6 _)⟩
  refine p9 (c9 (c9 ?_))
  cases oi k
  cases q _ u
  refine j7 ?_
  cases oi o
  exact qd ⟨_,f,u,u,i,s⟩
 rintro _ w9 ⟨s5,W,rfl,rfl,X,aj⟩
 have c:=D9 c
 refine qr (mv u (lv (F6 underlying9 u) (lv (U4 u u) (av u (nq (l7 ?_))))))
 cases oi c
 exact ey results106 ⟨W,u,X⟩

theorem b0H {q0:u1}{r:Bool}(hS:SH w K [] w K [])(aJ:j5 q0.Id)(G:b7 F8 K A a b q0.Fields)(D:b7 H5 K B c d q0.Nums)(hm:a1N F q0=some r):
  Calls prog 115 #[.agg #[V6 q0.Id,V3 A a b,V3 B c d]] w (R_b w K r):=by
 rw [a1N] at hm
 refine ci func115 u ntmps115 (sr (bx u hS fun k da aK=>?_))
 have aL:SH _ _ _ _ _ [r5 k [V6 q0.Id,V3 A a b,V3 B c d] 64]:=aK
 refine lv (M7 u) (Q9 (lv (R1 u) (nq ?_)))
 obtain⟨aM,aN,J⟩:=ob hm
 refine j9 (IE aM w K [] K [(1,pt k)] [r5 k [V6 q0.Id,V3 A a b,V3 B c d] 64]) ?_ ?_
 ·refine i7 ?_
  obtain⟨db,aO,ap⟩:=ob aN
  refine qw (fun (O:Int)=>IW w K [] K [(1,pt k),(3,V6 O)] [r5 k [V6 q0.Id,V3 A a b,V3 B c d] 64] (j5 O)) aO ⟨K,u,aL,kr,R3⟩ ?_
  rintro O _ dc dd aP aq ⟨ar,rfl,H,I,de⟩
  refine n9 (sr (mv u (fl S7 u a3p m0 H u (lv (p7 underlying61 u (G.mono I)) (lv (o4 u u) (nq (D0 aP u (fun aQ W=>?_) (fun aQ W=>?_))))))))
  ·refine i8 (qs (i7 (sr (fl S7 u a3p m0 H u (mv u ?_)))))
   obtain⟨R,aR,aS⟩:=ob W
   refine li underlying61 J6 (G.mono I) aR fun aT aU df aV aW=>?_
   obtain⟨rfl,aX,aY⟩:=aV
   have aZ:D7 _ aT aU [sv R.Name,sv R.Text]:=aW
   refine lv (C9 J6 u H aZ u) (al J6 H fun ba dg bb=>?_)
   have bc:SH _ _ _ _ _ [r5 ba [sv [],sv []] 118,_]:=bb
   refine lw [sv R.Name,sv R.Text] J6 bc fun dh bd=>(ns ?_)
   obtain⟨be,bf,bg⟩:=ob aS
   refine j9 (IV w K [] ar [(1,pt k),(3,V6 O),(43,.bool be)] [r5 k [V6 q0.Id,V3 A a b,V3 B c d] 64]) ?_ ?_
   ·refine D3 mixed (by kernel_rfl) bd (kv (c7 a1E u) (kh (u9 D8 u m0 u) ?_))
    obtain⟨di,bh,bi⟩:=ob bf
    refine kc a9A (fun _ _ bj dj=>(N7 F) bj.enter0 aX bh) (kv (y3 u) (km u (bt bi (fun q X=>?_) (fun q X=>?_))))
    ·refine kn q (kn q (kn q (kn q (kv (L1 u q u) (km u (qv u u u u (qv u u u u (qv u u u u ?_))))))))
     iterate 10 refine ku ?_
     refine qv u u u u (kv (L1 u u u) (A3 ?_))
     rintro dk ⟨bk,bl,bm⟩
     cases oi X
     exact qd ⟨bk,u,bl.s,bm⟩
    refine kg q (c7 a5T u) (kgh q (u9 D8 u m0 u) ?_)
    obtain⟨dl,bn,bo⟩:=ob X
    refine kcg q b7U (fun _ _ bp dm=>(a4o F) bp.enter0 aY bn) (kg q (y3 u) (kv (m9 u q u) (km u (bt bo (fun l Y=>?_) (fun l Y=>?_)))))
    ·refine kn l (kn l (kn l ?_))
     iterate 10 refine ku ?_
     refine kn l (kv (L1 u l u) (A3 ?_))
     rintro dn ⟨bq,br,bs⟩
     cases oi Y
     exact qd ⟨bq,u,br.s,bs⟩
    refine kg l (i4 u) (kg l (E9 u u) (kg l (i4 u) (bt Y (fun i aa=>?_) (fun i aa=>?_))))
    ·refine kg i (c7 a1E u) (kgh i (u9 D8 u m0 u) (kg i (c7 S7 u) (kgh i (u9 a3p u m1 u) (kg i (i4 u) (kg i (I8 u u) ?_)))))
     obtain⟨au,bu,bv⟩:=ob aa
     refine A8 (t:=F8) (wg u u i) u underlying61 J6 u u (G.mono I) bu fun bz bA dp bB bC=>?_
     obtain⟨rfl,dq,dr⟩:=bB
     have bD:D7 _ bz bA [sv au.Name,sv au.Text]:=bC
     refine kg i (c7 a1E u) (kgh i (z7 D8 u (bD 0 _ u)) (kg i (b0R u u) (kg l (q8 u i u) (kv (m9 u l u) (A3 ?_)))))
     rintro ds ⟨bE,bF,bG⟩
     cases oi bv
     exact qd ⟨bE,u,bF.s,bG⟩
    iterate 10 refine kn i ?_
    refine kg l (X8 u i u) (kv (m9 u l u) (A3 ?_))
    rintro dt ⟨bH,bI,bJ⟩
    cases oi aa
    exact qd ⟨bH,u,bI.s,bJ⟩
   rintro _ du ⟨aw,rfl,ax,bK⟩
   refine l4 (D0 bg u (fun bL ab=>?_) (fun bL ab=>?_))
   ·refine sr (lv (M7 u) (nq (l7 (j4 (g6 (g6 ?_))))))
    cases oi ab
    cases aq _ u
    refine j4 (g6 ?_)
    cases oi ap
    refine g6 ?_
    cases oi J
    exact ey results115 ⟨aw,u,ax.s⟩
   refine i8 (q7 (l4 (j3 (mv u (lv (u6 u u) (av u (i5 ?_)))))))
   cases oi ab
   exact qd ⟨_,u,aw,u,ax,(I.trans bK),(s6 _)⟩
  refine p9 (c9 (c9 ?_))
  cases oi W
  cases aq _ u
  refine j7 ?_
  cases oi ap
  exact qd ⟨_,ar,u,u,H,I⟩
 rintro _ dv ⟨dw,ac,rfl,rfl,bM,y⟩
 have J:=D9 J
 refine qs (sr (lv (R1 u) (nq ?_)))
 obtain⟨bN,bO,S⟩:=ob J
 refine j9 (IE bN w K [] ac [(1,pt k)] [r5 k [V6 q0.Id,V3 A a b,V3 B c d] 64]) ?_ ?_
 ·refine i7 ?_
  obtain⟨dx,bP,ay⟩:=ob bO
  refine qw (fun (T:Int)=>IW w K [] ac [(1,pt k),(5,V6 T)] [r5 k [V6 q0.Id,V3 A a b,V3 B c d] 64] (j5 T)) bP ⟨ac,u,bM,kr,R3⟩ ?_
  rintro T _ dy dz bQ az ⟨aA,rfl,ad,C,dA⟩
  refine n9 (sr (mv u (fl a0r u a43 m0 ad u (lv (p7 underlying62 u (D.mono (y.trans C))) (lv (o4 u u) (nq (D0 bQ u (fun bR ae=>?_) (fun bR ae=>?_))))))))
  ·refine i8 (qs (i7 (n9 ?_)))
   obtain⟨bS,bT,bU⟩:=ob ae
   refine j9 (IV w K [] aA [(1,pt k),(5,V6 T),(88,.bool bS)] [r5 k [V6 q0.Id,V3 A a b,V3 B c d] 64]) ?_ ?_
   ·refine D3 mixed (by kernel_rfl) ad (kv (c7 a0r u) (kh (u9 a43 u m0 u) (km u ?_)))
    obtain⟨aB,bV,bW⟩:=ob bT
    refine ki underlying62 P0 (D.mono (y.trans C)) bV fun bX bY dB bZ ca=>?_
    obtain⟨rfl,cb,dC⟩:=bZ
    have cc:D7 _ bX bY [sv aB.Name,V6 aB.Num]:=ca
    refine kv (c7 a3z u) (kh (z7 D8 u (cc 0 _ u)) ?_)
    obtain⟨dD,cd,ce⟩:=ob bW
    refine kc a9A (fun _ _ cf dE=>(N7 F) cf.enter0 cb cd) (kv (y3 u) (km u (bt ce (fun o af=>?_) (fun o af=>?_))))
    ·iterate 8 refine kn o ?_
     refine kv (L1 u o u) (km u (qv u u u u (qv u u u u (qv u u u u ?_))))
     iterate 14 refine ku ?_
     refine qv u u u u (kv (L1 u u u) (A3 ?_))
     rintro dF ⟨cg,ch,cj⟩
     cases oi af
     exact qd ⟨cg,u,ch,cj⟩
    refine kg o (c7 a0r u) (kgh o (u9 a43 u m0 u) (kg o (i4 u) ?_))
    obtain⟨aC,ck,cl⟩:=ob af
    refine A8 (t:=H5) (wg u u o) u underlying62 P0 u u (D.mono (y.trans C)) ck fun cm cn dG cp cq=>?_
    obtain⟨rfl,dH,cr⟩:=cp
    have cs:D7 _ cm cn [sv aC.Name,V6 aC.Num]:=cq
    refine kg o (c7 b0n u) (kgh o (z7 G4 u (cs 1 _ u)) ?_)
    obtain⟨dI,ct,cu⟩:=ob cl
    refine kcg o a8b (fun _ _ cv dJ=>(U1 F) cv.enter0 cr R3 (by decide :j5 999999999) ct) (kg o (y3 u) (kv (m9 u o u) (km u (bt cu (fun m ag=>?_) (fun m ag=>?_)))))
    ·refine kn m (kn m (kn m ?_))
     iterate 14 refine ku ?_
     refine kn m (kv (L1 u m u) (A3 ?_))
     rintro dK ⟨cw,cx,cy⟩
     cases oi ag
     exact qd ⟨cw,u,cx,cy⟩
    refine kg m (i4 u) (kg m (E9 u u) (kg m (i4 u) (bt ag (fun f ah=>?_) (fun f ah=>?_))))
    ·refine kg f (c7 a0r u) (kgh f (u9 a43 u m0 u) (kg f (i4 u) ?_))
     obtain⟨aD,cz,cA⟩:=ob ah
     refine A8 (t:=H5) (wg u u f) u underlying62 P0 u u (D.mono (y.trans C)) cz fun cB cC dL cD cE=>?_
     obtain⟨rfl,dM,dN⟩:=cD
     have cF:D7 _ cB cC [sv aD.Name,V6 aD.Num]:=cE
     refine kg f (c7 a3z u) (kgh f (z7 D8 u (cF 0 _ u)) (kg f (c7 a0r u) (kgh f (u9 a43 u m0 u) (kg f (i4 u) (kg f (I8 u u) ?_)))))
     obtain⟨aE,cG,cH⟩:=ob cA
     refine A8 (t:=H5) (wg u u f) u underlying62 P0 u u (D.mono (y.trans C)) cG fun cI cJ dO cK cL=>?_
     obtain⟨rfl,dP,dQ⟩:=cK
     have cM:D7 _ cI cJ [sv aE.Name,V6 aE.Num]:=cL
     refine kg f (c7 a3z u) (kgh f (z7 D8 u (cM 0 _ u)) (kg f (b0R u u) (kg m (q8 u f u) (kv (m9 u m u) (A3 ?_)))))
     rintro dR ⟨cN,cO,cP⟩
     cases oi cH
     exact qd ⟨cN,u,cO,cP⟩
    iterate 14 refine kn f ?_
    refine kg m (X8 u f u) (kv (m9 u m u) (A3 ?_))
    rintro dS ⟨cQ,cR,cS⟩
    cases oi ah
    exact qd ⟨cQ,u,cR,cS⟩
   rintro _ dT ⟨aF,rfl,aG,cT⟩
   refine l4 (D0 bU u (fun cU ai=>?_) (fun cU ai=>?_))
   ·refine sr (lv (M7 u) (nq (l7 (j4 (g6 (g6 ?_))))))
    cases oi ai
    cases az _ u
    refine j4 (g6 ?_)
    cases oi ay
    refine g6 ?_
    cases oi S
    exact ey results115 ⟨aF,u,aG.s⟩
   refine i8 (q7 (l4 (j3 (mv u (lv (u6 u u) (av u (i5 ?_)))))))
   cases oi ai
   exact qd ⟨_,u,aF,u,aG,(C.trans cT),(s6 _)⟩
  refine p9 (c9 (c9 ?_))
  cases oi ae
  cases az _ u
  refine j7 ?_
  cases oi ay
  exact qd ⟨_,aA,u,u,ad,C⟩
 rintro _ dU ⟨dV,dW,rfl,rfl,aj,ak⟩
 have S:=D9 S
 refine qr (fl T9 u G4 m0 aj u ?_)
 obtain⟨dX,cV,cW⟩:=ob S
 refine lk a8b (U1 F aj.enter0 aJ (by decide :j5 1) (by decide :j5 9999) cV) ?_
 rintro dY dZ ⟨cX,rfl,U⟩
 have V:=(aj.c0 U).t1
 refine mv u (bt cW (fun s am=>?_) (fun s am=>?_))
 ·refine lg s (c7 S7 u) (lg s (x8 a3p u m0 V u) (lg s (p7 underlying61 u (G.mono ((y.trans ak).trans U.le))) ?_))
  obtain⟨ea,cY,cZ⟩:=ob am
  refine A7 (wg u u s) u (A6 (vs:=[V6 (q0.Fields.length:Int),V6 0,V6 3]) a8b u) (U1 F V.enter0 (a2L (b7.max (G.mono ((y.trans ak).trans U.le)))) R3 (by decide :j5 3) cY) ?_
  rintro eb ec ⟨aH,rfl,aI⟩
  refine⟨_,u,?_⟩
  have an:=(V.c0 aI).t1
  refine lv (q8 u s u) (mv u (bt cZ (fun x ao=>?_) (fun x ao=>?_)))
  ·refine lg x (c7 a0r u) (lg x (x8 a43 u m0 an u) (lg x (p7 underlying62 u (b7.mono (((y.trans ak).trans U.le).trans aI.le) D)) (lg x (U4 u u) (lv (q8 u x u) (av u (nq (l7 ?_)))))))
   cases oi ao
   exact ey results115 ⟨aH,u,an.s⟩
  refine lu x (lu x (lu x (lu x (lv (X8 u x u) (av u (nq (l7 ?_)))))))
  cases oi ao
  exact ey results115 ⟨aH,u,an.s⟩
 refine lu s (lu s (lu s (lu s (lv (X8 u s u) (mv u (lu u (lu u (lu u (lu u ?_)))))))))
 refine lv (X8 u u u) (av u (nq (l7 ?_)))
 cases oi am
 exact ey results115 ⟨cX,u,V.s⟩

theorem a8H {q0:List u1}{r:Bool}(hS:SH w K [] w K [])(i:b7 E5 K A a b q0)(hm:a0B F q0=some r):
  Calls prog 67 #[V3 A a b] w (R_b w K r):=by
 rw [a0B] at hm
 refine ci func67 u ntmps67 (sr (lv (M7 u) (Q9 (lv (R1 u) (nq ?_)))))
 obtain⟨I,J,k⟩:=ob hm
 refine j9 (IE I w K [] K [(0,V3 A a b)] []) ?_ ?_
 ·refine i7 ?_
  obtain⟨bk,O,x⟩:=ob J
  refine qw (fun (l:Int)=>IW w K [] K [(0,V3 A a b),(3,V6 l)] [] (j5 l)) O ⟨K,u,hS,kr,R3⟩ ?_
  rintro l _ bl bm R y ⟨B,rfl,C,f,bn⟩
  refine n9 (sr (mv u (mv u (lv (p7 underlying40 u (i.mono f)) (lv (o4 u u) (nq (D0 R u (fun S m=>?_) (fun S m=>?_))))))))
  ·refine i8 (qs (i7 (n9 ?_)))
   obtain⟨T,U,V⟩:=ob m
   refine j9 (IV w K [] B [(0,V3 A a b),(3,V6 l),(33,.bool T)] []) ?_ ?_
   ·refine D3 mixed (by kernel_rfl) C (km u (km u ?_))
    obtain⟨W,X,Y⟩:=ob U
    refine ki underlying40 C8 (i.mono f) X fun aa ab bo ac ad=>?_
    obtain⟨ae,af,ag,ah,ai,aj,rfl,ak,al,am⟩:=ac
    have an:D7 _ aa ab [V6 W.Id,V3 ae af ag,V3 ah ai aj]:=ad
    refine kh (a8Q C8 u an u) ?_
    obtain⟨bp,ao,ap⟩:=ob Y
    refine kc b9c (fun _ _ aq D=>(b0H F) aq.enter0 ak (al.mono D) (am.mono D) ao) (kv (y3 u) (km u (bt ap (fun d o=>?_) (fun d o=>?_))))
    ·refine kn d (kn d (kn d ?_))
     iterate 12 refine ku ?_
     refine kn d (kv (L1 u d u) (A3 ?_))
     rintro bq ⟨ar,au,aw⟩
     cases oi o
     exact qd ⟨ar,u,au,aw⟩
    refine kg d (i4 u) (kg d (E9 u u) (kg d (i4 u) (bt o (fun c q=>?_) (fun c q=>?_))))
    ·refine kg c (i4 u) (kg c (i4 u) ?_)
     obtain⟨ax,ay,az⟩:=ob q
     refine A8 (t:=E5) (wg u u c) u underlying40 C8 u u (i.mono f) ay fun aA aB br aC aD=>?_
     obtain⟨aE,aF,aG,aH,aI,aJ,rfl,bs,bu,bv⟩:=aC
     have aK:D7 _ aA aB [V6 ax.Id,V3 aE aF aG,V3 aH aI aJ]:=aD
     refine kg c (c7 T9 u) (kgh c (z7 G4 u (aK 0 _ u)) (kg c (i4 u) (kg c (i4 u) (kg c (I8 u u) ?_))))
     obtain⟨aL,aM,aN⟩:=ob az
     refine A8 (t:=E5) (wg u u c) u underlying40 C8 u u (i.mono f) aM fun aO aP bx aQ aR=>?_
     obtain⟨aS,aT,aU,aV,aW,aX,rfl,bz,bA,bB⟩:=aQ
     have aY:D7 _ aO aP [V6 aL.Id,V3 aS aT aU,V3 aV aW aX]:=aR
     refine kg c (c7 T9 u) (kgh c (z7 G4 u (aY 0 _ u)) (kg c (U4 u u) (kg d (q8 u c u) (kv (m9 u d u) (A3 ?_)))))
     rintro bC ⟨aZ,ba,bb⟩
     cases oi aN
     exact qd ⟨aZ,u,ba,bb⟩
    iterate 12 refine kn c ?_
    refine kg d (X8 u c u) (kv (m9 u d u) (A3 ?_))
    rintro bD ⟨bc,bd,be⟩
    cases oi q
    exact qd ⟨bc,u,bd,be⟩
   rintro _ bE ⟨G,rfl,H,bf⟩
   refine l4 (D0 V u (fun bg s=>?_) (fun bg s=>?_))
   ·refine sr (lv (M7 u) (nq (l7 (j4 (g6 (g6 ?_))))))
    cases oi s
    cases y _ u
    refine j4 (g6 ?_)
    cases oi x
    refine g6 ?_
    cases oi k
    exact ey results67 ⟨G,u,H⟩
   refine i8 (q7 (l4 (j3 (mv u (lv (u6 u u) (av u (i5 ?_)))))))
   cases oi s
   exact qd ⟨_,u,G,u,H,(f.trans bf),(s6 _)⟩
  refine p9 (c9 (c9 ?_))
  cases oi m
  cases y _ u
  refine j7 ?_
  cases oi x
  exact qd ⟨_,B,u,u,C,f⟩
 rintro _ bF ⟨s8,K9,rfl,rfl,bi,bj⟩
 have k:=D9 k
 refine qr (mv u (lv (p7 underlying40 u (i.mono bj)) (lv (U4 u u) (av u (nq (l7 ?_))))))
 cases oi k
 exact ey results67 ⟨K9,u,bi⟩

theorem a7z {q0:List w8}{q1:List l3}{q2:Int}{q3:Int}{r:Int×Int}(hS:SH w K [] w K [])(s:b7 G2 K A a b q0)(J:b7 B3 K B c d q1)(ad:j5 q2)(ae:j5 q3)(hm:Y5 F q0 q1 q2 q3=some r):
  Calls prog 155 #[V3 A a b,V3 B c d,V6 q2,V6 q3] w fun e w'=>∃K',e= .returned (.tuple #[V6 r.1,V6 r.2])∧SH w K [] w' K' []∧j5 r.1∧j5 r.2:=by
 rw [Y5] at hm
 refine ci func155 u ntmps155 (sr (lv (R1 u) (lv (R1 u) (nr (lv (R1 u) (nr (lv (R1 u) (Q9 (lv (R1 u) ?_)))))))))
 refine nq ?_
 obtain⟨o,af,ag⟩:=ob hm
 refine j9 (IW w K [] K [(10,V6 o.1),(11,V6 o.2)] [] (j5 o.1∧j5 o.2)) ?_ ?_
 ·refine i7 ?_
  obtain⟨bu,ah,ai⟩:=ob af
  refine qw (fun (f:Int×Int×Int)=>IW w K [] K [(0,V3 A a b),(1,V3 B c d),(2,V6 q2),(3,V6 q3),(10,V6 f.1),(11,V6 f.2.1),(12,V6 f.2.2)] [] (j5 f.1∧j5 f.2.1∧j5 f.2.2)) ah ⟨K,u,hS,kr,R3,R3,R3⟩ ?_
  rintro f _ bv bx aj ak ⟨q,rfl,O,k,R,al,bz⟩
  refine n9 (sr (mv u (mv u (lv (p7 underlying22 u (J.mono k)) (lv (o4 u u) (nq (D0 aj u (fun am x=>?_) (fun am x=>?_))))))))
  ·refine i8 (qs (i7 (sr (lv (R1 u) (Q9 (lv (R1 u) (nq ?_)))))))
   obtain⟨y,an,ao⟩:=ob x
   refine j9 (IW w K [] q [(0,V3 A a b),(1,V3 B c d),(2,V6 q2),(3,V6 q3),(10,V6 f.1),(11,V6 f.2.1),(12,V6 f.2.2),(13,V6 y)] [] (j5 y)) ?_ ?_
   ·refine i7 ?_
    obtain⟨bA,ap,aq⟩:=ob an
    refine qw (fun (l:Int×Int)=>IW w K [] q [(0,V3 A a b),(1,V3 B c d),(2,V6 q2),(3,V6 q3),(10,V6 f.1),(11,V6 f.2.1),(12,V6 f.2.2),(13,V6 l.1),(14,V6 l.2)] [] (j5 l.1∧j5 l.2)) ap ⟨q,u,O,kr,R3,R3⟩ ?_
    rintro l _ bB bC ar au ⟨S,rfl,T,m,U,bD⟩
    refine n9 (sr (mv u (mv u (lv (p7 underlying101 u (s.mono (k.trans m))) (lv (o4 u u) (nq (D0 ar u (fun aw C=>?_) (fun aw C=>?_))))))))
    ·refine i8 (qs (i7 (n9 ?_)))
     obtain⟨ax,ay,az⟩:=ob C
     refine j9 (IV w K [] S [(0,V3 A a b),(1,V3 B c d),(2,V6 q2),(3,V6 q3),(10,V6 f.1),(11,V6 f.2.1),(12,V6 f.2.2),(13,V6 l.1),(14,V6 l.2),(46,.bool ax)] []) ?_ ?_
     ·refine D3 mixed (by kernel_rfl) T (km u (km u ?_))
      obtain⟨V,aA,aB⟩:=ob ay
      refine ki underlying101 E3 (s.mono (k.trans m)) aA fun aC aD bE aE aF=>?_
      obtain⟨rfl,bF,bG⟩:=aE
      have aG:D7 _ aC aD [sv V.Text,V6 V.At]:=aF
      refine kv (c7 a0h u) (kh (z7 D8 u (aG 0 _ u)) (km u (km u ?_)))
      obtain⟨aH,aI,aJ⟩:=ob aB
      refine ki underlying22 D8 (J.mono (k.trans m)) aI fun aK aL bH aM aN=>?_
      obtain⟨rfl,bI⟩:=aM
      have aO:D7 _ aK aL [sv aH]:=aN
      refine kh (z7 D8 u (aO 0 _ u)) (kv (J4 u u) (km u (bt aJ (fun i D=>?_) (fun i D=>?_))))
      ·refine kg i (i4 u) (kg i (i4 u) ?_)
       obtain⟨W,aP,aQ⟩:=ob D
       refine A8 (t:=G2) (wg u u i) u underlying101 E3 u u (s.mono (k.trans m)) aP fun aR aS bJ aT aU=>?_
       obtain⟨rfl,bK,aV⟩:=aT
       have aW:D7 _ aR aS [sv W.Text,V6 W.At]:=aU
       refine kg i (c7 a0i u) (kgh i (z7 G4 u (aW 1 _ u)) (kg i (i4 u) (kg i (i4 u) ?_)))
       obtain⟨bL,aX,aY⟩:=ob aQ
       refine kcg i a8b (fun _ _ aZ bM=>(U1 F) aZ.enter0 aV ad ae aX) (kv (q8 u i u) (A3 ?_))
       rintro bN ⟨ba,bb,bc⟩
       cases oi aY
       exact qd ⟨ba,u,bb,bc⟩
      iterate 8 refine kn i ?_
      refine kv (X8 u i u) (A3 ?_)
      rintro bO ⟨bd,be,bf⟩
      cases oi D
      exact qd ⟨bd,u,be,bf⟩
     rintro _ bP ⟨X,rfl,Y,aa⟩
     refine l4 (D0 az u (fun bg G=>?_) (fun bg G=>?_))
     ·refine j3 (mv u (lv (u6 u u) (av u (nb (l4 (j3 (mv u (lv (u6 u u) (av u ?_)))))))))
      refine i5 ?_
      cases oi G
      exact qd ⟨_,u,X,u,Y,(m.trans aa),(s6 _),(s6 _)⟩
     refine i8 (q7 (l4 (j3 (mv u (lv (u6 u u) (av u (i5 ?_)))))))
     cases oi G
     exact qd ⟨_,u,X,u,Y,(m.trans aa),U,(s6 _)⟩
    refine p9 (c9 (c9 ?_))
    cases oi C
    cases au _ u
    refine j7 ?_
    cases oi aq
    exact qd ⟨S,u,T,m,U⟩
   rintro _ bQ ⟨H,rfl,ab,bh,bR⟩
   refine qs (sr (mv u (lv (E9 u u) (nq ?_))))
   obtain⟨ac,bi,bj⟩:=ob ao
   refine j9 (IW w K [] H [(0,V3 A a b),(1,V3 B c d),(2,V6 q2),(3,V6 q3),(10,V6 ac),(11,V6 f.2.1),(12,V6 f.2.2),(13,V6 y)] [] (j5 ac)) ?_ ?_
   ·refine D0 bi u (fun bk I=>?_) (fun bk I=>?_)
    ·refine j3 (mv u (lv (u6 u u) (av u (i5 ?_))))
     cases oi I
     exact qd ⟨H,u,ab,kr,(s6 _)⟩
    refine i8 ?_
    cases oi I
    exact qd ⟨H,u,ab,kr,R⟩
   rintro _ bS ⟨bl,rfl,bm,bn,bo⟩
   refine l4 (j3 (mv u (mv u (lv (u6 u u) (av u (nb (l4 (j3 (mv u ?_)))))))))
   refine lv (u6 u u) (av u (i5 ?_))
   cases oi bj
   exact qd ⟨_,u,bl,u,bm,((k.trans bh).trans bn),bo,(s6 _),(s6 _)⟩
  refine p9 (c9 (c9 ?_))
  cases oi x
  cases ak _ u
  refine j7 ?_
  cases oi ai
  exact qd ⟨q,u,O,k,R,al⟩
 rintro _ bT ⟨bp,rfl,bq,bU,br,bs⟩
 refine qr (mv u (mv u (av u (av u (nq (l7 ?_))))))
 cases oi ag
 exact O8 (vs:=[_,_]) results155 ⟨u,u,trivial⟩ ⟨bp,u,bq,br,bs⟩

theorem a7y {q0:List w8}{q1:Int}{q2:List l3}{q3:Int}{r:Int}(hS:SH w K [] w K [])(Y:b7 G2 K A a b q0)(aC:j5 q1)(aa:b7 B3 K B c d q2)(aD:j5 q3)(hm:Y4 F q0 q1 q2 q3=some r):
  Calls prog 108 #[V3 A a b,V6 q1,V3 B c d,V6 q3] w (R_i w K r):=by
 rw [Y4] at hm
 refine ci func108 u ntmps108 (sr (lv (R1 u) (nr (lv (R1 u) (nr (lv (r4 (v:=V6 (-1)) u) (nr (lv (r4 (v:=V6 (-1)) u) (Q9 ?_)))))))))
 refine lv (R1 u) (nq ?_)
 obtain⟨O,ab,ac⟩:=ob hm
 refine j9 (IW w K [] K [(9,V6 O)] [] (j5 O)) ?_ ?_
 ·refine i7 ?_
  obtain⟨aE,ad,ae⟩:=ob ab
  refine qw (fun (f:Int×Int×Int×Int)=>IW w K [] K [(0,V3 A a b),(1,V6 q1),(2,V3 B c d),(3,V6 q3),(9,V6 f.1),(10,V6 f.2.1),(11,V6 f.2.2.1),(12,V6 f.2.2.2)] [] (j5 f.1∧j5 f.2.1∧j5 f.2.2.1∧j5 f.2.2.2)) ad ⟨K,u,hS,kr,R3,(by decide :j5 (-1)),(by decide :j5 (-1)),R3⟩ ?_
  rintro f _ aF aG af ag ⟨s,rfl,R,m,S,ah,ai,T⟩
  refine n9 (n9 ?_)
  obtain⟨aj,ak,al⟩:=ob af
  refine j9 (IV w K [] s [(0,V3 A a b),(1,V6 q1),(2,V3 B c d),(3,V6 q3),(9,V6 f.1),(10,V6 f.2.1),(11,V6 f.2.2.1),(12,V6 f.2.2.2),(23,.bool aj)] []) ?_ ?_
  ·refine j3 (mv u (lv (F7 u u) (mv u (bt ak (fun k x=>?_) (fun k x=>?_)))))
   ·iterate 5 refine lu k ?_
    refine lv (L1 u k u) (i5 ?_)
    cases oi x
    exact qd ⟨s,u,R,kr⟩
   refine lg k (i4 u) (lg k (i4 u) (lg k (u6 u u) (lg k (i4 u) (lg k (U4 u u) (lv (m9 u k u) (i5 ?_))))))
   cases oi x
   exact qd ⟨s,u,R,kr⟩
  rintro _ aH ⟨am,rfl,y,o⟩
  refine l4 (D0 al u (fun an C=>?_) (fun an C=>?_))
  ·refine i8 (qs (i7 (sr (mv u (mv u (mv u (mv u (mv u (lv (u6 u u) ?_)))))))))
   refine lv (I8 u u) ?_
   obtain⟨U,ao,ap⟩:=ob C
   refine lk b9z (a7z F y.enter0 (Y.mono (m.trans o)) (aa.mono (m.trans o)) T (s6 _) ao) ?_
   rintro aI aJ ⟨q,rfl,D,aq,ar⟩
   have G:=(y.c0 D).t0
   refine mv u (lv (B6 u u) (lv (B6 u u) (av u (av u (ns ?_)))))
   obtain⟨au,aw,ax⟩:=ob ap
   refine j9 (IV w K [] q [(0,V3 A a b),(1,V6 q1),(2,V3 B c d),(3,V6 q3),(9,V6 f.1),(10,V6 f.2.1),(11,V6 f.2.2.1),(12,V6 f.2.2.2),(13,V6 U.1),(14,V6 U.2),(49,.bool au)] []) ?_ ?_
   ·refine j3 (mv u (mv u (lv (E9 u u) (mv u (bt aw (fun i H=>?_) (fun i H=>?_))))))
    ·refine lu i (lu i (lu i (lu i (D4 (uu u u) u (D4 (uu u u) u (D4 (uu u u) u (lu i (lv (L1 u i u) (i5 ?_)))))))))
     cases oi H
     exact qd ⟨q,u,G,kr⟩
    refine lg i (i4 u) (lg i (i4 u) (lg i (F7 u u) (lg i (i4 u) (bt H (fun l I=>?_) (fun l I=>?_)))))
    ·refine lg l (i4 u) (lg l (i4 u) (lg l (E9 u u) (lg i (q8 u l u) (lv (m9 u i u) (i5 ?_)))))
     cases oi I
     exact qd ⟨q,u,G,kr⟩
    refine lu l (lu l (lu l (lg i (X8 u l u) (lv (m9 u i u) (i5 ?_)))))
    cases oi I
    exact qd ⟨q,u,G,kr⟩
   rintro _ aK ⟨V,rfl,W,X⟩
   refine l4 (D0 ax u (fun ay J=>?_) (fun ay J=>?_))
   ·refine sr (mv u (av u (nr (mv u (av u (nq (j3 (mv u (av u ?_)))))))))
    refine nb (l4 (j3 (mv u (lv (u6 u u) (av u (i5 ?_))))))
    cases oi J
    exact qd ⟨_,u,V,u,W,(((m.trans o).trans D.le).trans X),T,aq,ar,(s6 _)⟩
   refine i8 (q7 (l4 (j3 (mv u (lv (u6 u u) (av u (i5 ?_)))))))
   cases oi J
   exact qd ⟨_,u,V,u,W,(((m.trans o).trans D.le).trans X),S,ah,ai,(s6 _)⟩
  refine p9 (c9 (c9 ?_))
  cases oi C
  cases ag _ u
  refine j7 ?_
  cases oi ae
  exact qd ⟨am,u,y,(m.trans o),S⟩
 rintro _ aL ⟨az,rfl,aA,aM,aB⟩
 refine qr (mv u (av u (nq (l7 ?_))))
 cases oi ac
 exact ey results108 ⟨az,u,aA,aB⟩
end Go.Proofs.YtpdfkjjmcnhakaaGreatDoor
