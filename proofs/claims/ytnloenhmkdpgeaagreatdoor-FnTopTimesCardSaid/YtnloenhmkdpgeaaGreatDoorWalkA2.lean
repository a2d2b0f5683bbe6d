/-
 Walks of the functions. Printed by gen.py.
-/
import Derived.Test.YtnloenhmkdpgeaaGreatDoorFacts
set_option linter.unusedVariables false
set_option linter.unusedSectionVars false
set_option maxRecDepth 100000
namespace Go.Proofs.YtnloenhmkdpgeaaGreatDoor
set_option maxHeartbeats 4000000
open Go Go.Fk Go.RowKit Tryz
variable (F:Nat){w:World}{K:F9}{Z:List Nat}{g1 g2 g3:Nat}{A B C D G H I J O R S T:Option Addr}{a b c d f i k l m n o p q s v x y aa ab ac ad ae af ag:Nat}
variable [dr:Dr]

theorem b1E {q0:List D3}{q1:List r4}{r:Bool}(hS:SH w K [] w K [])(l:b7 S3 K A a b q0)(C:b7 D9 K B c d q1)(hm:a0H F q0 q1=some r):
  Calls prog 214 #[V3 A a b,V3 B c d] w (R_b w K r):=by
 rw [a0H] at hm
 refine ci func214 u ntmps214 (sr (lv (O6 u) (O7 (lv (N2 u) (nq ?_)))))
 obtain⟨U,V,m⟩:=ob hm
 refine l4 (IE U w K [] K [] []) ?_ ?_
 ·refine j7 ?_
  obtain⟨aW,W,D⟩:=ob V
  refine qw (fun (o:Int)=>IW w K [] K [(0,V3 A a b),(1,V3 B c d),(5,V6 o)] [] (i7 o)) W ⟨K,u,hS,kr,I5⟩ ?_
  rintro o _ aX aY X G ⟨H,rfl,I,k,aZ⟩
  refine o4 (sr (mv u (mv u (lv (q9 underlying23 u (C.mono k)) (lv (u7 u u) (nq (D5 X u (fun Y q=>?_) (fun Y q=>?_))))))))
  ·refine j3 (qs (j7 (o4 ?_)))
   obtain⟨aa,ab,ac⟩:=ob q
   refine l4 (IV w K [] H [(0,V3 A a b),(1,V3 B c d),(5,V6 o),(41,.bool aa)] []) ?_ ?_
   ·refine D4 mixed (by kernel_rfl) I (km u (km u (kv (q9 underlying104 u (l.mono k)) (kv (a3B u u) (km u (bt ab (fun i s=>?_) (fun i s=>?_)))))))
    ·iterate 10 refine kn i ?_
     refine kv (J6 u i u) (km u ?_)
     iterate 12 refine qv u u u u ?_
     refine kv (J6 u u u) (B4 ?_)
     rintro ba ⟨ad,ae,af⟩
     cases oi s
     exact qd ⟨ad,u,ae,af⟩
    refine kg i (i5 u) (kg i (i5 u) ?_)
    obtain⟨J,ag,ah⟩:=ob s
    refine C7 (t:=S3) (wg u u i) u underlying104 M3 u u (l.mono k) ag fun ai aj bb ak al=>?_
    obtain⟨rfl,bc,bd⟩:=ak
    have am:F1 _ ai aj [sv J.Text,V6 J.At]:=al
    refine kg i (c7 a3Z u) (kgh i (C1 G7 u (am 0 _ u)) (kg i (i5 u) (kg i (i5 u) ?_)))
    obtain⟨an,ao,ap⟩:=ob ah
    refine C7 (t:=D9) (wg u u i) u underlying23 G7 u u (C.mono k) ao fun aq ar be au aw=>?_
    obtain⟨rfl,bf⟩:=au
    have ax:F1 _ aq ar [sv an]:=aw
    refine kgh i (C1 G7 u (ax 0 _ u)) (kg i (a2C u u) (kv (l9 u i u) (km u (bt ap (fun f x=>?_) (fun f x=>?_)))))
    ·iterate 12 refine kn f ?_
     refine kv (J6 u f u) (B4 ?_)
     rintro bg ⟨ay,az,aA⟩
     cases oi x
     exact qd ⟨ay,u,az,aA⟩
    refine kg f (i5 u) (kg f (i5 u) ?_)
    obtain⟨O,aB,aC⟩:=ob x
    refine C7 (t:=S3) (wg u u f) u underlying104 M3 u u (l.mono k) aB fun aD aE bh aF aG=>?_
    obtain⟨rfl,bi,bj⟩:=aF
    have aH:F1 _ aD aE [sv O.Text,V6 O.At]:=aG
    refine kg f (c7 a30 u) (kgh f (C1 E6 u (aH 1 _ u)) (kg f (i5 u) ?_))
    obtain⟨R,aI,aJ⟩:=ob aC
    refine C7 (t:=S3) (wg u u f) u underlying104 M3 u u (l.mono k) aI fun aK aL bk aM aN=>?_
    obtain⟨rfl,bl,bm⟩:=aM
    have aO:F1 _ aK aL [sv R.Text,V6 R.At]:=aN
    refine kg f (c7 a30 u) (kgh f (C1 E6 u (aO 1 _ u)) (kg f (i5 u) (kg f (y7 u u) (kg f (R2 u u) (kv (l9 u f u) (B4 ?_))))))
    rintro bn ⟨aP,aQ,aR⟩
    cases oi aJ
    exact qd ⟨aP,u,aQ,aR⟩
   rintro _ bo ⟨S,rfl,T,aS⟩
   refine l5 (D5 ac u (fun aT y=>?_) (fun aT y=>?_))
   ·refine sr (lv (O6 u) (nq (j9 (i9 (c9 (c9 ?_))))))
    cases oi y
    cases G _ u
    refine i9 (c9 ?_)
    cases oi D
    refine c9 ?_
    cases oi m
    exact ey results214 ⟨S,u,T⟩
   refine j3 (x8 (l5 (j5 (mv u (lv (y7 u u) (av u (i8 ?_)))))))
   cases oi y
   exact qd ⟨_,u,S,u,T,(k.trans aS),(u0 _)⟩
  refine y4 (g8 (g8 ?_))
  cases oi q
  cases G _ u
  refine l6 ?_
  cases oi D
  exact L6 ⟨_,H,u,u,I,k⟩ trivial
 rintro _ bp ⟨bq,aU,rfl,rfl,aV,br⟩
 have m:=E9 m
 refine qr (lv (r_t u) (nq (j9 ?_)))
 cases oi m
 exact ey results214 ⟨aU,u,aV⟩

theorem b4I {q0:u6}{q1:List D3}{r:Int}(hS:SH w K [] w K [])(bn:b7 D9 K A a b q0.Stops)(s:b7 L0 K B c d q0.Syns)(V:b7 S3 K C f i q1)(hm:a4n F q0 q1=some r):
  Calls prog 180 #[.agg #[V3 A a b,V3 B c d],V3 C f i] w (R_i w K r):=by
 rw [a4n] at hm
 refine ci func180 u ntmps180 (sr (bx u hS fun q bo W=>?_))
 have X:SH _ _ _ _ _ [s7 q [V3 A a b,V3 B c d] 26]:=W
 refine lv (N2 u) (nr (lv (u9 (v:=V6 (-1)) u) (O7 (lv (N2 u) (nq ?_)))))
 obtain⟨I,Y,aa⟩:=ob hm
 refine l4 (IW w K [] K [(5,V6 I)] [] (i7 I)) ?_ ?_
 ·refine j7 ?_
  obtain⟨bp,ab,ac⟩:=ob Y
  refine qw (fun (o:Int×Int)=>IW w K [] K [(1,V3 C f i),(2,pt q),(5,V6 o.1),(6,V6 o.2)] [s7 q [V3 A a b,V3 B c d] 26] (i7 o.1∧i7 o.2)) ab ⟨K,u,X,kr,(by decide :i7 (-1)),I5⟩ ?_
  rintro o _ bq br ad ae ⟨J,rfl,x,m,O,af⟩
  refine o4 (sr (mv u (fl a3y u a9v m0 x u (lv (q9 underlying24 u (s.mono m)) (lv (u7 u u) (nq (D5 ad u (fun ag y=>?_) (fun ag y=>?_))))))))
  ·refine j3 (qs (j7 (o4 ?_)))
   obtain⟨ah,ai,aj⟩:=ob y
   refine l4 (IV w K [] J [(1,V3 C f i),(2,pt q),(5,V6 o.1),(6,V6 o.2),(42,.bool ah)] [s7 q [V3 A a b,V3 B c d] 26]) ?_ ?_
   ·refine D4 mixed (by kernel_rfl) x (km u (kv (c7 a3y u) (kh (z6 a9v u m0 u) (km u ?_))))
    obtain⟨ak,al,am⟩:=ob ai
    refine ki underlying24 a4h (s.mono m) al fun an ao bs ap aq=>?_
    obtain⟨ar,au,aw,rfl,ax,bu⟩:=ap
    have ay:F1 _ an ao [V3 ar au aw,sv ak.To]:=aq
    refine kv (c7 a0R u) (kh (C1 W1 u (ay 0 _ u)) ?_)
    obtain⟨bv,az,aA⟩:=ob am
    refine kc c6p (fun _ _ aB R=>(b1E F) aB.enter0 (V.mono (m.trans R)) (ax.mono R) az) (km u (bt aA (fun l D=>?_) (fun l D=>?_)))
    ·refine kg l (i5 u) (kg l (u7 u u) (kg l (i5 u) (bt D (fun k G=>?_) (fun k G=>?_))))
     ·iterate 15 refine kn k ?_
      refine kg l (J6 u k u) (kv (n9 u l u) (B4 ?_))
      rintro bz ⟨aC,aD,aE⟩
      cases oi G
      exact qd ⟨aC,u,aD,aE⟩
     refine kg k (c7 a3y u) (kgh k (z6 a9v u m0 u) (kg k (i5 u) ?_))
     obtain⟨aF,aG,aH⟩:=ob G
     refine C7 (t:=L0) (wg u u k) u underlying24 a4h u u (s.mono m) aG fun aI aJ bA aK aL=>?_
     obtain⟨aM,aN,aO,rfl,aP,bB⟩:=aK
     have aQ:F1 _ aI aJ [V3 aM aN aO,sv aF.To]:=aL
     refine kg k (c7 a0R u) (kgh k (C1 W1 u (aQ 0 _ u)) (kg k (q9 underlying23 u aP) (kg k (c7 a3y u) (kgh k (z6 a9v u m0 u) (kg k (i5 u) ?_)))))
     obtain⟨aR,aS,aT⟩:=ob aH
     refine C7 (t:=L0) (wg u u k) u underlying24 a4h u u (s.mono m) aS fun aU aV bC aW aX=>?_
     obtain⟨aY,aZ,ba,rfl,bb,bD⟩:=aW
     have bc:F1 _ aU aV [V3 aY aZ ba,sv aR.To]:=aX
     refine kg k (c7 a0R u) (kgh k (C1 W1 u (bc 0 _ u)) (kg k (q9 underlying23 u bb) (kg k (E7 u u) (kg l (l9 u k u) (kv (n9 u l u) (B4 ?_))))))
     rintro bE ⟨bd,be,bf⟩
     cases oi aT
     exact qd ⟨bd,u,be,bf⟩
    refine kn l (kn l (kn l ?_))
    iterate 15 refine ku ?_
    refine kn l (kv (L8 u l u) (B4 ?_))
    rintro bF ⟨bg,bh,bi⟩
    cases oi D
    exact qd ⟨bg,u,bh,bi⟩
   rintro _ bG ⟨S,rfl,T,U⟩
   refine l5 (D5 aj u (fun bj H=>?_) (fun bj H=>?_))
   ·refine j5 (mv u (av u (nb (l5 (j5 (mv u (lv (y7 u u) (av u (i8 ?_)))))))))
    cases oi H
    exact qd ⟨_,u,S,u,T,(m.trans U),af,(u0 _)⟩
   refine j3 (x8 (l5 (j5 (mv u (lv (y7 u u) (av u (i8 ?_)))))))
   cases oi H
   exact qd ⟨_,u,S,u,T,(m.trans U),O,(u0 _)⟩
  refine y4 (g8 (g8 ?_))
  cases oi y
  cases ae _ u
  refine l6 ?_
  cases oi ac
  exact qd ⟨J,u,x.s,m,O⟩
 rintro _ bH ⟨bk,rfl,bl,bI,bm⟩
 refine qr (mv u (av u (nq (j9 ?_))))
 cases oi aa
 exact ey results180 ⟨bk,u,bl,bm⟩

theorem b3N {q0:u6}{q1:List D3}{q2:Int}{r:(Option Z0)}(hS:SH w K [] w K [])(ch:b7 D9 K A a b q0.Stops)(J:b7 L0 K B c d q0.Syns)(ac:b7 S3 K C f i q1)(cj:i7 q2)(hm:a3H F q0 q1 q2=some r):
  Calls prog 125 #[.agg #[V3 A a b,V3 B c d],V3 C f i,V6 q2] w fun e w'=>∃v_1 K',e= .returned (v_1)∧SH w K [] w' K' []∧a9j L0 K' v_1 r:=by
 rw [a3H] at hm
 refine ci func125 u ntmps125 (sr (bx u hS fun s ck ax=>?_))
 have ao:SH _ _ _ _ _ [s7 s [V3 A a b,V3 B c d] 26]:=ax
 refine lv (u9 (v:=.pointer none) u) (nr (lv (u9 (v:=.pointer none) u) (O7 (fl a3y u a9v m0 ao u (lv (q9 underlying24 u J) (lv (r_m u) (nq ?_)))))))
 obtain⟨ay,az,aA⟩:=ob hm
 refine l4 (fun E' w'=>∃v25 O,E'=[(7,v25)]∧SH w K [] w' O []∧M0 K O∧a9j L0 O v25 ay) ?_ ?_
 ·refine j7 ?_
  obtain⟨cl,aB,aC⟩:=ob az
  refine qF (fun (R:Nat) (ad:(Option Z0)) E' w'=>∃v36 G,E'=[(1,V3 C f i),(2,V6 q2),(3,pt s),(7,v36),(16,V6 (q0.Syns.length:Int)),(17,V6 ((R:Nat):Int))]∧SH w K [] w' G [s7 s [V3 A a b,V3 B c d] 26]∧M0 K G∧a9j L0 G v36 ad) aB ⟨(.pointer none),K,u,ao,kr,(show a9j L0 _ _ none from u)⟩ ?_ ?_
  ·rintro R ad _ aD cm hi39 aE ⟨v36,G,rfl,U,x,hp37⟩
   refine sr (lv (u7 u u) (ns (C9 u (b8 (by omega)) (j3 (l5 (o4 (j7 (sr (mv u (av u (nr (fl a3y u a9v m0 U u ?_))))))))))))
   refine mv u ?_
   obtain⟨ae,aF,aG⟩:=ob aE
   refine li underlying24 a4h (J.mono x) aF fun H I cn aH aI=>?_
   obtain⟨V,W,X,rfl,y,aJ⟩:=aH
   have Y:F1 _ H I [V3 V W X,sv ae.To]:=aI
   refine av u (ns (o4 ?_))
   obtain⟨aK,aL,aM⟩:=ob aG
   refine l4 (IV w K [] G [(1,V3 C f i),(2,V6 q2),(3,pt s),(7,v36),(9,.pointer (some ⟨H,I,none⟩)),(16,V6 (q0.Syns.length:Int)),(17,V6 ((R:Nat):Int)),(50,.bool aK)] [s7 s [V3 A a b,V3 B c d] 26]) ?_ ?_
   ·refine D4 mixed (by kernel_rfl) U (km u (kv (B7 u) (kv (c7 a0R u) (kh (C1 W1 u (Y 0 _ u)) (kv (q9 underlying23 u y) (km u (kv (q9 underlying104 u (ac.mono x)) (km u (kv (I6 u u) ?_)))))))))
    refine kv (E7 u u) (km u (bt aL (fun o af=>?_) (fun o af=>?_)))
    ·refine kn o (kn o (kn o ?_))
     iterate 11 refine ku ?_
     refine kn o (kv (J6 u o u) (B4 ?_))
     rintro cp ⟨aN,aO,aP⟩
     cases oi af
     exact qd ⟨aN,u,aO,aP⟩
    refine kg o (i5 u) (kg o (b8z underlying161 u u hp37) (kg o (i5 u) (bt af (fun k ag=>?_) (fun k ag=>?_))))
    ·refine kg k (i5 u) (kg k (B7 u) (kg k (c7 a0R u) (kgh k (C1 W1 u (Y 0 _ u)) (kg k (q9 underlying23 u y) (kg k (i5 u) ?_)))))
     obtain⟨aQ,aR,aS⟩:=ob ag
     obtain⟨aT,aU,cq,rfl,aV,aW⟩:=a9j.get hp37 aR
     obtain⟨aX,aY,aZ,rfl,ba,cr⟩:=aV
     have bb:F1 _ aT aU [V3 aX aY aZ,sv aQ.To]:=aW
     refine kg k (B7 u) (kg k (c7 a0R u) (kgh k (C1 W1 u (bb 0 _ u)) (kg k (q9 underlying23 u ba) (kg k (V2 u u) (kg o (n9 u k u) (kv (l9 u o u) (B4 ?_)))))))
     rintro cs ⟨bc,bd,be⟩
     cases oi aS
     exact qd ⟨bc,u,bd,be⟩
    iterate 11 refine kn k ?_
    refine kg o (L8 u k u) (kv (l9 u o u) (B4 ?_))
    rintro ct ⟨bf,bg,bh⟩
    cases oi ag
    exact qd ⟨bf,u,bg,bh⟩
   rintro _ cu ⟨aa,rfl,ah,l⟩
   refine l5 (D5 aM u (fun bi ai=>?_) (fun bi ai=>?_))
   ·refine y4 (g8 (l6 (qg (lv (B6 u u (C6 hi39 (b7.max J))) (mv u (i8 ?_))))))
    cases oi ai
    exact qd ⟨v36,aa,u,ah,(x.trans l),(a9j.mono l hp37)⟩
   refine j3 (qr (lv (r_t u) (O7 (mv u (lv (B7 u) (fa a0R u (lv (y9 W1 u ah ((F1.mono l Y) 0 _ u)) (lv (q9 underlying23 u (y.mono l)) (lv (r_m u) ?_)))))))))
   refine nq ?_
   obtain⟨bj,bk,bl⟩:=ob ai
   refine l4 (IV w K [] aa [(1,V3 C f i),(2,V6 q2),(3,pt s),(7,v36),(9,.pointer (some ⟨H,I,none⟩)),(10,.bool bj),(16,V6 (q0.Syns.length:Int)),(17,V6 ((R:Nat):Int))] [s7 s [V3 A a b,V3 B c d] 26]) ?_ ?_
   ·refine j7 ?_
    obtain⟨cv,bm,bn⟩:=ob bk
    refine qF (fun (ap:Nat) (aj:Bool)=>IV w K [] aa [(1,V3 C f i),(2,V6 q2),(3,pt s),(7,v36),(9,.pointer (some ⟨H,I,none⟩)),(10,.bool aj),(16,V6 (q0.Syns.length:Int)),(17,V6 ((R:Nat):Int)),(54,V3 V W X),(55,V6 (ae.From.length:Int)),(56,V6 ((ap:Nat):Int))] [s7 s [V3 A a b,V3 B c d] 26]) bm ⟨aa,u,ah,kr⟩ ?_ ?_
    ·rintro ap aj _ bo cw hi112 bp ⟨aq,rfl,S,D⟩
     refine sr (lv (u7 u u) (ns (C9 u (b8 (by omega)) (j3 (l5 (o4 (j7 (sr (mv u ?_)))))))))
     obtain⟨bq,br,bs⟩:=ob bp
     refine li underlying23 G7 (y.mono (l.trans D)) br fun bu bv cx bz bA=>?_
     obtain⟨rfl,cy⟩:=bz
     have bB:F1 _ bu bv [sv bq]:=bA
     refine lv (y9 G7 u S (bB 0 _ u)) (av u (av u (nr (mv u (mv u (mv u (lv (y7 u u) ?_)))))))
     obtain⟨ab,bC,bD⟩:=ob bs
     refine li underlying104 M3 (ac.mono ((x.trans l).trans D)) bC fun bE bF cz bG bH=>?_
     obtain⟨rfl,cA,cB⟩:=bG
     have bI:F1 _ bE bF [sv ab.Text,V6 ab.At]:=bH
     refine lv (F3 M3 u S bI u) (al M3 S fun bJ cC bK=>?_)
     have bL:SH _ _ _ _ _ [s7 bJ [sv [],V6 0] 107,_]:=bK
     refine lw [sv ab.Text,V6 ab.At] M3 bL fun cD bM=>(nq (D4 mixed (by kernel_rfl) bM (km u (km u (bt bD (fun q ak=>?_) (fun q ak=>?_))))))
     ·refine kg q (c7 a3Z u) (kgh q (z6 G7 u m0 u) (kg q (i5 u) (kg q (J8 u u) (kv (n9 u q u) (km u (bt ak (fun m am=>?_) (fun m am=>?_)))))))
      ·refine kg m (c7 a30 u) (kgh m (z6 E6 u m0 u) (kg m (i5 u) (kg m (i5 u) ?_)))
       obtain⟨ar,bN,bO⟩:=ob am
       refine C7 (t:=S3) (wg u u m) u underlying104 M3 u u (ac.mono ((x.trans l).trans D)) bN fun bP bQ cE bR bS=>?_
       obtain⟨rfl,cF,cG⟩:=bR
       have bT:F1 _ bP bQ [sv ar.Text,V6 ar.At]:=bS
       refine kg m (c7 a30 u) (kgh m (C1 E6 u (bT 1 _ u)) (kg m (i5 u) (kg m (y7 u u) (kg m (A9 u u) (kv (n9 u m u) (kv (u9 u) (B4 ?_)))))))
       rintro cH ⟨bU,bV,bW⟩
       refine x8 (qg (lv (B6 u u (C6 hi112 (b7.max (y.mono l)))) (mv u (i8 ?_))))
       cases oi bO
       exact qd ⟨bU,u,bV.s,(D.trans bW)⟩
      iterate 10 refine kn m ?_
      refine kv (L8 u m u) (kv (u9 u) (B4 ?_))
      rintro cI ⟨bX,bY,bZ⟩
      refine x8 (qg (lv (B6 u u (C6 hi112 (b7.max (y.mono l)))) (mv u (i8 ?_))))
      cases oi am
      exact qd ⟨bX,u,bY.s,(D.trans bZ)⟩
     refine kn q (kn q (kn q (kn q (kv (L8 u q u) (km u ?_)))))
     iterate 10 refine qv u u u u ?_
     refine kv (L8 u u u) (kv (u9 u) (B4 ?_))
     rintro cJ ⟨ca,cb,cc⟩
     refine x8 (qg (lv (B6 u u (C6 hi112 (b7.max (y.mono l)))) (mv u (i8 ?_))))
     cases oi ak
     exact qd ⟨ca,u,cb.s,(D.trans cc)⟩
    rintro aj _ bo cd ⟨aq,rfl,S,D⟩
    subst cd
    refine sr (lv (u7 u u) (ns (C8 u (c6 (by omega)) (y4 (g8 (g8 (l6 ?_)))))))
    cases oi bn
    exact qd ⟨aq,u,S,D⟩
   rintro _ cK ⟨au,rfl,aw,T⟩
   refine qr (mv u (nq (D5 bl u (fun ce an=>?_) (fun ce an=>?_))))
   ·refine j5 (mv u (av u (nb (qg (lv (B6 u u (C6 hi39 (b7.max J))) (mv u (i8 ?_)))))))
    cases oi an
    exact qd ⟨(.pointer (some ⟨H,I,none⟩)),au,u,aw,((x.trans l).trans T),⟨H,I,.agg #[V3 V W X,sv ae.To],u,⟨V,W,X,u,(y.mono (l.trans T)),aJ⟩,(F1.mono (l.trans T) Y)⟩⟩
   refine j3 (x8 (qg (lv (B6 u u (C6 hi39 (b7.max J))) (mv u (i8 ?_)))))
   cases oi an
   exact qd ⟨v36,au,u,aw,((x.trans l).trans T),(a9j.mono (l.trans T) hp37)⟩
  rintro ad _ aD cf ⟨v36,G,rfl,U,x,hp37⟩
  subst cf
  refine sr (lv (u7 u u) (ns (C8 u (c6 (by omega)) (y4 (g8 (g8 (l6 ?_)))))))
  cases oi aC
  exact qd ⟨v36,G,u,U.s,x,hp37⟩
 rintro _ cL ⟨v25,O,rfl,cg,cM,hp26⟩
 refine qr (mv u (av u (nq (j9 ?_))))
 cases oi aA
 exact ey results125 ⟨v25,O,u,cg,hp26⟩

theorem b1w {q0:A1}{r:A1}(hS:SH w K [] w K [])(G:i7 q0.Id)(H:b7 K5 K A a b q0.Fields)(I:b7 N0 K B c d q0.Nums)(hm:a13 F q0=some r):
  Calls prog 151 #[.agg #[V6 q0.Id,V3 A a b,V3 B c d]] w fun e w'=>∃a_2 n_3 c_4 a_6 n_7 c_8 K',e= .returned (.agg #[V6 r.Id,V3 a_2 n_3 c_4,V3 a_6 n_7 c_8])∧SH w K [] w' K' [tail (V3 a_2 n_3 c_4) 148 2,tail (V3 a_6 n_7 c_8) 137 2]∧i7 r.Id∧b7 K5 K' a_2 n_3 c_4 r.Fields∧b7 N0 K' a_6 n_7 c_8 r.Nums:=by
 rw [a13] at hm
 refine ci func151 u ntmps151 (sr (bx u hS fun aC aX aE=>?_))
 have aF:SH _ _ _ _ _ [s7 aC [V6 q0.Id,V3 A a b,V3 B c d] 44]:=aE
 refine al E8 aF fun aG aY aH=>?_
 have aI:SH _ _ _ _ _ [s7 aG [V6 0,V3 none 0 0,V3 none 0 0] 44,_]:=aH
 refine ns ?_
 obtain⟨aZ,J,aJ⟩:=ob hm
 obtain⟨ba,O,R⟩:=ob aJ
 have v:=aI.drew
 refine j_0 (fun w'=>H0 K w'∧B0 aC [V6 q0.Id,V3 A a b,V3 B c d] w') 12 [] mixed ⟨v.hasK kr,v.hasObj m1⟩ (jv 0 u (c7 P6 u) (jh 1 u (fun _ h=>B5 E6 u u h.2) (jv 3 u (c7 a1x u) (jh 4 u (fun _ h=>B5 a7g u u h.2) (jv 7 u (c7 a1S u) (jh 8 u (fun _ h=>B5 a7y u u h.2) (j2 2 6 u u ?_ ?_)))))))
 ·refine b0 K5 underlying41 U6 v fun bb bc bd f aD x=>(P0 ⟨x.hasK f,x.hasObj m2⟩ (j2 5 6 u u ?_ ?_))
  ·refine lp underlying41 U6 aD (H.mono f) J x fun S T U be bf m aK V=>(P0 ⟨V.hasK (f.trans m),V.hasObj m2⟩ (j1 6 u (b0 N0 underlying42 Y9 V fun bg bh bi o aL W=>(P0 ⟨W.hasK ((f.trans m).trans o),W.hasObj m3⟩ (j1 9 u (lp underlying42 Y9 aL (I.mono ((f.trans m).trans o)) O W fun X Y aa bj aM ab aN ac=>(P0 ⟨ac.hasK (((f.trans m).trans o).trans ab),ac.hasObj m3⟩ (jv 10 u (C3 (cs:=#[V6 q0.Id,V3 S T U,V3 X Y aa]) b4M E8 u (by kernel_rfl)) (j1 11 u ?_)))))))))
   refine lw [V6 q0.Id,V3 S T U,V3 X Y aa] E8 ac.f2 fun bk y=>(P0 ⟨y.hasK (((f.trans m).trans o).trans ab),y.hasObj m3⟩ (jd (l5 (j9 ?_))))
   cases oi R
   exact ez results151 E8 y m0 ⟨S,T,U,X,Y,aa,aM,u,y.f1.f2.s,G,(aK.mono (o.trans ab)),aN⟩
  refine b0 N0 underlying42 Y9 x fun bl bm bn i aO ad=>(P0 ⟨ad.hasK (f.trans i),ad.hasObj m3⟩ (j1 5 u (lp underlying41 U6 (aD.mono i) (H.mono (f.trans i)) J ad.f1 fun ae af ag bo bp q aP ah=>(P0 ⟨ah.hasK ((f.trans i).trans q),ah.hasObj m3⟩ (j1 9 u (lp underlying42 Y9 (aO.mono q) (I.mono ((f.trans i).trans q)) O ah.f1 fun ai aj ak bq aQ am aR an=>(P0 ⟨an.hasK (((f.trans i).trans q).trans am),an.hasObj m3⟩ (jv 10 u (C3 (cs:=#[V6 q0.Id,V3 ae af ag,V3 ai aj ak]) b4M E8 u (by kernel_rfl)) (j1 11 u ?_)))))))))
  refine lw [V6 q0.Id,V3 ae af ag,V3 ai aj ak] E8 an.f2 fun br C=>(P0 ⟨C.hasK (((f.trans i).trans q).trans am),C.hasObj m3⟩ (jd (l5 (j9 ?_))))
  cases oi R
  exact ez results151 E8 C m0 ⟨ae,af,ag,ai,aj,ak,aQ,u,C.f1.f2.s,G,(aP.mono am),aR⟩
 refine b0 N0 underlying42 Y9 v fun bs bu bv k aS ao=>(P0 ⟨ao.hasK k,ao.hasObj m2⟩ (j1 2 u (b0 K5 underlying41 U6 ao fun bz bA bB l aT ap=>(P0 ⟨ap.hasK (k.trans l),ap.hasObj m3⟩ (j1 5 u (lp underlying41 U6 aT (H.mono (k.trans l)) J ap fun aq ar au bC bD s aU aw=>(P0 ⟨aw.hasK ((k.trans l).trans s),aw.hasObj m3⟩ (j1 9 u (lp underlying42 Y9 (aS.mono (l.trans s)) (I.mono ((k.trans l).trans s)) O aw.f1 fun ax ay az bE aV aA aW aB=>?_)))))))))
 refine P0 ⟨aB.hasK (((k.trans l).trans s).trans aA),aB.hasObj m3⟩ (jv 10 u (C3 (cs:=#[V6 q0.Id,V3 aq ar au,V3 ax ay az]) b4M E8 u (by kernel_rfl)) (j1 11 u (lw [V6 q0.Id,V3 aq ar au,V3 ax ay az] E8 aB.f2 fun bF D=>(P0 ⟨D.hasK (((k.trans l).trans s).trans aA),D.hasObj m3⟩ (jd (l5 (j9 ?_)))))))
 cases oi R
 exact ez results151 E8 D m0 ⟨aq,ar,au,ax,ay,az,aV,u,D.f1.f2.s,G,(aU.mono aA),aW⟩

theorem b0G {q0:List A1}{r:(List A1)}(hS:SH w K [] w K [])(x:b7 F6 K A a b q0)(hm:a1j F q0=some r):
  Calls prog 110 #[V3 A a b] w fun e w'=>∃a_1 n_2 c_3 K',e= .returned (V3 a_1 n_2 c_3)∧SH w K [] w' K' [tail (V3 a_1 n_2 c_3) 44 3]∧b7 F6 K' a_1 n_2 c_3 r:=by
 rw [a1j] at hm
 refine ci func110 u ntmps110 (sr (lv (r_n u) (nr (b0 F6 underlying27 E8 hS fun a5 w6 y B ag ah=>(av u (O7 (mv u (lv (q9 underlying27 u (x.mono B)) (lv (r_m u) ?_)))))))))
 refine nq ?_
 obtain⟨ai,aj,ak⟩:=ob hm
 refine l4 (fun E' w'=>∃k l m o,E'=[(3,V3 k l m)]∧SH w K [] w' o [tail (V3 k l m) 44 3]∧M0 y o∧b7 F6 o k l m ai) ?_ ?_
 ·refine j7 ?_
  obtain⟨bb,am,an⟩:=ob aj
  refine qF (fun (ad:Nat) (C:(List A1)) E' w'=>∃c d f i,E'=[(3,V3 c d f),(7,V3 A a b),(8,V6 (q0.length:Int)),(9,V6 ((ad:Nat):Int))]∧SH w K [] w' i [tail (V3 c d f) 44 3]∧M0 y i∧b7 F6 i c d f C) am ⟨a5,0,0,y,u,ah,kr,ag⟩ ?_ ?_
  ·rintro ad C _ ao bc hi37 ap ⟨c,d,f,i,rfl,q,s,D⟩
   refine sr (lv (u7 u u) (ns (C9 u (b8 (by omega)) (j3 (l5 (o4 (j7 (sr ?_))))))))
   obtain⟨G,aq,ar⟩:=ob ap
   refine li underlying27 E8 (x.mono (B.trans s)) aq fun au aw bd ax ay=>?_
   obtain⟨H,I,J,O,R,S,rfl,az,aA,aB⟩:=ax
   have aC:F1 _ au aw [V6 G.Id,V3 H I J,V3 O R S]:=ay
   refine lv (F3 E8 u q aC u) (al E8 q fun aD be aE=>?_)
   have aF:SH _ _ _ _ _ [s7 aD [V6 0,V3 none 0 0,V3 none 0 0] 44,_]:=aE
   refine lw [V6 G.Id,V3 H I J,V3 O R S] E8 aF fun bf T=>(nq (j5 (mv u (lv (j6 (ds:=[V6 G.Id,V3 H I J,V3 O R S]) E8 u m0 T u u) ?_))))
   obtain⟨U,aG,aH⟩:=ob ar
   refine lk c5S (b1w F T.enter0 az aA aB aG) ?_
   rintro bg bh ⟨V,W,X,Y,aa,ab,bi,rfl,ac,aI,aJ,aK⟩
   have aL:=(T.c0 ac).t4
   refine lb F6 (.agg #[V6 U.Id,V3 V W X,V3 Y aa ab]) [V6 U.Id,V3 V W X,V3 Y aa ab] U underlying27 E8 ⟨V,W,X,Y,aa,ab,u,aI,aJ,aK⟩ aL fun bj bk bl ae aM aN=>?_
   obtain⟨bm,aO,aP⟩:=ob aH
   refine lp underlying27 E8 (D.mono (ac.le.trans ae)) aM aO aN.f4 fun aQ aR aS bn aT aU aV aW=>(av u (nb (qg (lv (B6 u u (C6 hi37 (b7.max (x.mono B)))) (mv u (i8 ?_))))))
   cases oi aP
   exact qd ⟨aQ,aR,aS,aT,u,aW.s,(((s.trans ac.le).trans ae).trans aU),aV⟩
  rintro C _ ao aX ⟨c,d,f,i,rfl,q,s,D⟩
  subst aX
  refine sr (lv (u7 u u) (ns (C8 u (c6 (by omega)) (y4 (g8 (g8 (l6 ?_)))))))
  cases oi an
  exact qd ⟨c,d,f,i,u,q,s,D⟩
 rintro _ bo ⟨k,l,m,o,rfl,aY,bp,aZ⟩
 refine qr (mv u (av u (nq (j9 ?_))))
 cases oi ak
 exact ey results110 ⟨k,l,m,o,u,aY,aZ⟩

theorem a7G {q0:A5}{q1:Int}{r:A1×Bool}(hS:SH w K Z w K [s7 g1 [V3 A a b,V3 B c d] 30])(W:b7 F6 K A a b q0.Docs)(aO:b7 B8 K B c d q0.Entries)(aP:i7 q1)(hm:a0i F q0 q1=some r):
  Calls prog 69 #[.pointer (some ⟨g1,0,none⟩),V6 q1] w fun e w'=>∃a_2 n_3 c_4 a_6 n_7 c_8 K',e= .returned (.tuple #[.agg #[V6 r.1.Id,V3 a_2 n_3 c_4,V3 a_6 n_7 c_8],.bool r.2])∧SH w K Z w' K' [s7 g1 [V3 A a b,V3 B c d] 30]∧i7 r.1.Id∧b7 K5 K' a_2 n_3 c_4 r.1.Fields∧b7 N0 K' a_6 n_7 c_8 r.1.Nums:=by
 rw [a0i] at hm
 refine ci func69 u ntmps69 (sr (al E8 hS fun O aQ ao=>?_))
 have ai:SH _ _ _ _ _ [s7 O [V6 0,V3 none 0 0,V3 none 0 0] 44,_]:=ao
 refine lv (O6 u) (O7 (mv u (lv (B7 u) (fl L3 u a1b m1 ai u (lv (q9 underlying27 u W) (lv (r_m u) (nq ?_)))))))
 obtain⟨ap,aq,S⟩:=ob hm
 refine l4 (fun E' w'=>∃i X Y aa ab ac ad k,ap= .inl i∧E'=[(0,pt g1),(4,pt O)]∧SH w K Z w' k [s7 g1 [V3 A a b,V3 B c d] 30,s7 O [V6 i.Id,V3 X Y aa,V3 ab ac ad] 44]∧M0 K k∧i7 i.Id∧b7 K5 k X Y aa i.Fields∧b7 N0 k ab ac ad i.Nums) ?_ ?_
 ·refine j7 ?_
  obtain⟨aR,ar,aj⟩:=ob aq
  refine qf (fun (ak:Nat) (l:A1) E' w'=>∃m o q s x y f,E'=[(0,pt g1),(1,V6 q1),(4,pt O),(11,V3 A a b),(12,V6 (q0.Docs.length:Int)),(13,V6 ((ak:Nat):Int))]∧SH w K Z w' f [s7 g1 [V3 A a b,V3 B c d] 30,s7 O [V6 l.Id,V3 m o q,V3 s x y] 44]∧M0 K f∧i7 l.Id∧b7 K5 f m o q l.Fields∧b7 N0 f s x y l.Nums) ar ⟨none,0,0,none,0,0,K,u,ai.f1,kr,I5,(b7.nil _ _),(b7.nil _ _)⟩ ?_ ?_
  ·rintro ak l _ au aS hi52 aw ax ⟨m,o,q,s,x,y,f,rfl,T,U,ae,af,ag⟩
   refine sr (lv (u7 u u) (ns (C9 u (b8 (by omega)) (j3 (l5 (o4 (j7 (sr ?_))))))))
   obtain⟨R,ay,az⟩:=ob aw
   refine li underlying27 E8 (W.mono U) ay fun aA aB aT aC aD=>?_
   obtain⟨C,D,G,H,I,J,rfl,aE,aF,aG⟩:=aC
   have aH:F1 _ aA aB [V6 R.Id,V3 C D G,V3 H I J]:=aD
   refine lv (F3 E8 u T aH u) (al E8 T fun aI aU aJ=>?_)
   have aK:SH _ _ _ _ _ [s7 aI [V6 0,V3 none 0 0,V3 none 0 0] 44,_,_]:=aJ
   refine lw [V6 R.Id,V3 C D G,V3 H I J] E8 aK fun aV V=>(nr (fl P6 u E6 m0 V u (mv u (lv (A9 u u) (nq (D5 az u (fun aL ah=>?_) (fun aL ah=>?_)))))))
   ·refine sr (lv (j6 (ds:=[V6 R.Id,V3 C D G,V3 H I J]) E8 u m0 V u u) (lw [V6 R.Id,V3 C D G,V3 H I J] E8 V.f2 fun aW am=>(lv (r_t u) (nq (j9 (i9 (c9 (c9 ?_))))))))
    cases oi ah
    cases ax _ u
    refine i9 (c9 ?_)
    cases oi aj
    refine c9 ?_
    cases oi S
    exact S7 (vs:=[_,_]) results69 ⟨⟨_,_,u,B2 E8 (cs:=[V6 R.Id,V3 C D G,V3 H I J]) (fun j c e=>by rw [Nat.zero_add,am.mem_obj m0];exact e) (.inl ⟨u,u,u⟩)⟩,u,trivial⟩ ⟨C,D,G,H,I,J,f,u,am.s,aE,aF,aG⟩
   refine j3 (x8 (qg (lv (B6 u u (C6 hi52 (b7.max W))) (mv u (i8 ?_)))))
   cases oi ah
   exact qd ⟨_,u,m,o,q,s,x,y,f,u,V.s,U,ae,af,ag⟩
  rintro l _ au aM ⟨m,o,q,s,x,y,f,rfl,T,U,ae,af,ag⟩
  subst aM
  refine sr (lv (u7 u u) (ns (C8 u (c6 (by omega)) (y4 (g8 (g8 (l6 ?_)))))))
  cases oi aj
  exact qd ⟨_,m,o,q,s,x,y,f,u,u,T,U,ae,af,ag⟩
 rintro _ aX ⟨i,X,Y,aa,ab,ac,ad,k,rfl,rfl,aN,aY,aZ,ba,bb⟩
 have S:=E9 S
 refine qr (lv (C3 (cs:=#[V6 0,V3 none 0 0,V3 none 0 0]) b4M E8 u (by kernel_rfl)) (lw [V6 0,V3 none 0 0,V3 none 0 0] E8 aN.f1 fun bc an=>(lv (O6 u) (nq (j9 ?_)))))
 cases oi S
 exact S7 (vs:=[_,_]) results69 ⟨⟨_,_,u,B2 E8 (cs:=[V6 0,V3 none 0 0,V3 none 0 0]) (fun j c e=>by rw [Nat.zero_add,an.mem_obj m0];exact e) (.inl ⟨u,u,u⟩)⟩,u,trivial⟩ ⟨none,0,0,none,0,0,k,u,an.s,I5,(b7.nil _ _),(b7.nil _ _)⟩

theorem Q4 {q0:T0}{q1:r4}{q2:r4}{r:(List F7)}(hS:SH w K Z w K [s7 g1 [V3 A a b,V3 B c d,V3 C f i,V3 D k l] 113])(aC:b7 D9 K A a b q0.c_.Stops)(aD:b7 L0 K B c d q0.c_.Syns)(aE:b7 F6 K C f i q0.s_.Docs)(O:b7 B8 K D k l q0.s_.Entries)(aF:q1.length≤maxLen)(aG:q2.length≤maxLen)(hm:N7 F q0 q1 q2=some r):
  Calls prog 65 #[.pointer (some ⟨g1,2,none⟩),sv q1,sv q2] w fun e w'=>∃a_1 n_2 c_3 K',e= .returned (V3 a_1 n_2 c_3)∧SH w K Z w' K' [s7 g1 [V3 A a b,V3 B c d,V3 C f i,V3 D k l] 113]∧b7 S2 K' a_1 n_2 c_3 r:=by
 rw [N7] at hm
 refine ci func65 u ntmps65 (sr (lv (r_n u) (O7 (mv u (lv (B7 u) (fl M2 u a1e m0 hS u (lv (q9 underlying28 u O) (lv (r_m u) (nq ?_)))))))))
 obtain⟨ab,ac,s⟩:=ob hm
 refine l4 (IE ab w K Z K [(0,.pointer (some ⟨g1,2,none⟩))] [s7 g1 [V3 A a b,V3 B c d,V3 C f i,V3 D k l] 113]) ?_ ?_
 ·refine j7 ?_
  obtain⟨aH,ad,W⟩:=ob ac
  refine qf (fun (R:Nat) (X:Unit)=>IV w K Z K [(0,.pointer (some ⟨g1,2,none⟩)),(1,sv q1),(2,sv q2),(12,V3 D k l),(13,V6 (q0.s_.Entries.length:Int)),(14,V6 ((R:Nat):Int))] [s7 g1 [V3 A a b,V3 B c d,V3 C f i,V3 D k l] 113]) ad ⟨K,u,hS,kr⟩ ?_ ?_
  ·rintro R X _ ae aI hi38 af ag ⟨q,rfl,x,y⟩
   refine sr (lv (u7 u u) (ns (C9 u (b8 (by omega)) (j3 (l5 (o4 (j7 (sr ?_))))))))
   obtain⟨o,ah,ai⟩:=ob af
   refine li underlying28 P2 (O.mono y) ah fun aj ak aJ am an=>?_
   obtain⟨G,H,I,rfl,aK,aL,ao⟩:=am
   have ap:F1 _ aj ak [sv o.Field,sv o.Term,V3 G H I]:=an
   refine lv (F3 P2 u x ap u) (al P2 x fun S aM aq=>?_)
   have ar:SH _ _ _ _ _ [s7 S [sv [],sv [],V3 none 0 0] 99,_]:=aq
   refine lw [sv o.Field,sv o.Term,V3 G H I] P2 ar fun aN J=>(ns ?_)
   obtain⟨au,aw,ax⟩:=ob ai
   refine l4 (IV w K Z q [(0,.pointer (some ⟨g1,2,none⟩)),(1,sv q1),(2,sv q2),(8,pt S),(12,V3 D k l),(13,V6 (q0.s_.Entries.length:Int)),(14,V6 ((R:Nat):Int)),(27,.bool au)] [s7 g1 [V3 A a b,V3 B c d,V3 C f i,V3 D k l] 113,s7 S [sv o.Field,sv o.Term,V3 G H I] 99]) ?_ ?_
   ·refine j5 (fl a3z u G7 m0 J u (mv u (lv (J8 u u) (mv u (bt aw (fun m T=>?_) (fun m T=>?_))))))
    ·refine lg m (c7 a21 u) (lg m (w8 G7 u m0 J u) (lg m (i5 u) (lg m (J8 u u) (lv (n9 u m u) (i8 ?_)))))
     cases oi T
     exact qd ⟨q,u,J.f1,kr⟩
    refine lu m (lu m (lu m (lu m (lv (L8 u m u) (i8 ?_)))))
    cases oi T
    exact qd ⟨q,u,J.f1,kr⟩
   rintro _ aO ⟨Y,rfl,U,aa⟩
   refine l5 (D5 ax u (fun ay V=>?_) (fun ay V=>?_))
   ·refine sr (fl Y0 u a5B m1 U u (av u (nq (j9 (i9 (c9 (c9 ?_)))))))
    cases oi V
    cases ag _ u
    refine i9 (c9 ?_)
    cases oi W
    refine c9 ?_
    cases oi s
    exact ey results65 ⟨G,H,I,Y,u,U.s,(ao.mono aa)⟩
   refine j3 (x8 (qg (lv (B6 u u (C6 hi38 (b7.max O))) (mv u (i8 ?_)))))
   cases oi V
   exact qd ⟨_,u,Y,u,U.s,(y.trans aa)⟩
  rintro X _ ae az ⟨q,rfl,x,y⟩
  subst az
  refine sr (lv (u7 u u) (ns (C8 u (c6 (by omega)) (y4 (g8 (g8 (l6 ?_)))))))
  cases oi W
  exact qd ⟨_,q,u,u,x,y⟩
 rintro _ aP ⟨aQ,aA,rfl,rfl,aB,aR⟩
 have s:=E9 s
 refine qr (lv (r_n u) (nq (j9 ?_)))
 cases oi s
 exact ey results65 ⟨none,0,0,aA,u,aB,(b7.nil _ _)⟩

theorem a2w {q0:T0}{q1:r4}{q2:r4}{q3:Int}{r:(List Int)}(hS:SH w K Z w K [s7 g1 [V3 A a b,V3 B c d,V3 C f i,V3 D k l] 113])(V:b7 D9 K A a b q0.c_.Stops)(W:b7 L0 K B c d q0.c_.Syns)(X:b7 F6 K C f i q0.s_.Docs)(Y:b7 B8 K D k l q0.s_.Entries)(aa:q1.length≤maxLen)(ab:q2.length≤maxLen)(aJ:i7 q3)(hm:O9 F q0 q1 q2 q3=some r):
  Calls prog 128 #[.pointer (some ⟨g1,0,none⟩),sv q1,sv q2,V6 q3] w fun e w'=>∃a_1 n_2 c_3 K',e= .returned (V3 a_1 n_2 c_3)∧SH w K Z w' K' [s7 g1 [V3 A a b,V3 B c d,V3 C f i,V3 D k l] 113]∧b7 D6 K' a_1 n_2 c_3 r:=by
 rw [O9] at hm
 refine ci func128 u ntmps128 (sr (lv (r_n u) (O7 (mv u (lv (B7 u) (fa a6n u (mv u (mv u ?_))))))))
 obtain⟨ac,ad,ae⟩:=ob hm
 refine lk c1I (Q4 F hS.e1 V W X Y aa ab ad) ?_
 rintro aK aL ⟨af,ag,ah,y,rfl,ai,G⟩
 have aj:=(hS.c1 ai).t1
 refine lv (q9 underlying37 u G) (lv (r_m u) (nq ?_))
 obtain⟨ak,am,m⟩:=ob ae
 refine l4 (IE ak w K Z y [(0,pt g1)] [s7 g1 [V3 A a b,V3 B c d,V3 C f i,V3 D k l] 113]) ?_ ?_
 ·refine j7 ?_
  obtain⟨aM,an,R⟩:=ob am
  refine qf (fun (S:Nat) (T:Unit)=>IV w K Z y [(0,pt g1),(3,V6 q3),(16,V3 af ag ah),(17,V6 (ac.length:Int)),(18,V6 ((S:Nat):Int))] [s7 g1 [V3 A a b,V3 B c d,V3 C f i,V3 D k l] 113]) an ⟨y,u,aj,kr⟩ ?_ ?_
  ·rintro S T _ ao aN hi51 ap aq ⟨o,rfl,q,s⟩
   refine sr (lv (u7 u u) (ns (C9 u (b8 (by omega)) (j3 (l5 (o4 (j7 (sr ?_))))))))
   obtain⟨U,ar,au⟩:=ob ap
   refine li underlying37 a02 (G.mono s) ar fun aw ax aO ay az=>?_
   obtain⟨H,I,J,rfl,aP,aA⟩:=ay
   have aB:F1 _ aw ax [V6 U.Doc,V3 H I J]:=az
   refine lv (F3 a02 u q aB u) (al a02 q fun aC aQ aD=>?_)
   have aE:SH _ _ _ _ _ [s7 aC [V6 0,V3 none 0 0] 48,_]:=aD
   refine lw [V6 U.Doc,V3 H I J] a02 aE fun aR x=>(nr (fl a5U u E6 m0 x u (mv u (lv (A9 u u) (nq (D5 au u (fun aF O=>?_) (fun aF O=>?_)))))))
   ·refine sr (fl a4M u a1g m0 x u (av u (nq (j9 (i9 (c9 (c9 ?_)))))))
    cases oi O
    cases aq _ u
    refine i9 (c9 ?_)
    cases oi R
    refine c9 ?_
    cases oi m
    exact ey results128 ⟨H,I,J,o,u,x.s,aA⟩
   refine j3 (x8 (qg (lv (B6 u u (C6 hi51 (b7.max G))) (mv u (i8 ?_)))))
   cases oi O
   exact qd ⟨_,u,o,u,x.s,s⟩
  rintro T _ ao aG ⟨o,rfl,q,s⟩
  subst aG
  refine sr (lv (u7 u u) (ns (C8 u (c6 (by omega)) (y4 (g8 (g8 (l6 ?_)))))))
  cases oi R
  exact qd ⟨_,o,u,u,q,s⟩
 rintro _ aS ⟨aT,aH,rfl,rfl,aI,aU⟩
 have m:=E9 m
 refine qr (lv (r_n u) (nq (j9 ?_)))
 cases oi m
 exact ey results128 ⟨none,0,0,aH,u,aI,(b7.nil _ _)⟩

theorem a3o {q0:Int}{r:Bool}(hS:SH w K [] w K [])(a:i7 q0)(hm:T9 F q0=some r):
  Calls prog 183 #[V6 q0] w (R_b w K r):=by
 rw [T9] at hm
 refine ci func183 u ntmps183 (sr (lv (O6 u) (nr (mv u (mv u (lv (R2 u u) (av u (nq (j9 ?_)))))))))
 cases oi hm
 exact ey results183 ⟨K,u,hS⟩

theorem b2u {q0:Int}{q1:Int}{r:Bool}(hS:SH w K [] w K [])(l:i7 q0)(m:i7 q1)(hm:a1i F q0 q1=some r):
  Calls prog 243 #[V6 q0,V6 q1] w (R_b w K r):=by
 rw [a1i] at hm
 refine ci func243 u ntmps243 (sr (lv (O6 u) (nr (mv u ?_))))
 obtain⟨C,o,q⟩:=ob hm
 refine lk b82 (a3o F hS.enter0 l o) ?_
 rintro D G ⟨s,rfl,x⟩
 have c:=(hS.c0 x).t0
 refine mv u (bt q (fun a d=>?_) (fun a d=>?_))
 ·refine lg a (i5 u) ?_
  obtain⟨H,y,A⟩:=ob d
  refine A3 (wg u u a) u (A2 (vs:=[V6 q1]) b82 u) (a3o F c.enter0 m y) ?_
  rintro I J ⟨i,rfl,B⟩
  refine⟨_,u,?_⟩
  have k:=(c.c0 B).t0
  refine lg a (A4 u) (lv (n9 u a u) (mv u (bt A (fun b f=>?_) (fun b f=>?_))))
  ·refine lu b (lu b (lu b (lv (J6 u b u) (av u (nq (j9 ?_))))))
   cases oi f
   exact ey results243 ⟨i,u,k⟩
  refine lg b (i5 u) (lg b (i5 u) (lg b (u7 u u) (lv (l9 u b u) (av u (nq (j9 ?_))))))
  cases oi f
  exact ey results243 ⟨i,u,k⟩
 refine lu a (lu a (lu a (lv (L8 u a u) (mv u (lg u (i5 u) (lg u (i5 u) (lg u (u7 u u) (lv (l9 u u u) (av u ?_)))))))))
 refine nq (j9 ?_)
 cases oi d
 exact ey results243 ⟨s,u,c⟩

theorem a5E {q0:Int}{r:Bool}(hS:SH w K [] w K [])(a:i7 q0)(hm:a0m F q0=some r):
  Calls prog 244 #[V6 q0] w (R_b w K r):=by
 rw [a0m] at hm
 refine ci func244 u ntmps244 (sr (lv (O6 u) (nr (mv u (mv u (lv (R2 u u) (av u (nq (j9 ?_)))))))))
 cases oi hm
 exact ey results244 ⟨K,u,hS⟩

theorem a56 {q0:List Int}{q1:Int}{r:Int×Bool}(hS:SH w K [] w K [])(k:b7 D6 K A a b q0)(J:i7 q1)(hm:P8 F q0 q1=some r):
  Calls prog 233 #[V3 A a b,V6 q1] w fun e w'=>∃K',e= .returned (.tuple #[V6 r.1,.bool r.2])∧SH w K [] w' K' []∧i7 r.1:=by
 rw [P8] at hm
 refine ci func233 u ntmps233 (sr (lv (N2 u) (lv (O6 u) (nr (mv u (lv (q9 underlying46 u k) (av u (nr (mv u ?_)))))))))
 refine lv (N2 u) (av u (ns ?_))
 obtain⟨O,X,Y⟩:=ob hm
 refine l4 (IW w K [] K [(0,V3 A a b),(1,V6 q1),(6,V6 (q0.length:Int)),(7,V6 O)] [] (i7 O)) ?_ ?_
 ·refine j7 ?_
  obtain⟨aX,aa,ab⟩:=ob X
  refine qw (fun (l:Int×Int)=>IW w K [] K [(0,V3 A a b),(1,V6 q1),(6,V6 (q0.length:Int)),(7,V6 l.1),(8,V6 l.2)] [] (i7 l.1∧i7 l.2)) aa ⟨K,u,hS,kr,I5,k.rn⟩ ?_
  rintro l _ aY aZ ac ad ⟨ae,rfl,m,o,R,af⟩
  refine o4 (sr (mv u (mv u (lv (u7 u u) (nq (D5 ac u (fun ag s=>?_) (fun ag s=>?_)))))))
  ·refine j3 (l5 (j7 (sr (mv u (mv u (lv (y7 u u) ?_))))))
   obtain⟨ba,x,ah⟩:=ob s
   refine lv (c49 underlying3 underlying190 u (u0 _) x) ?_
   obtain⟨bb,y,ai⟩:=ob ah
   refine lv (c3x u u y) (lv (c5c underlying190 underlying3 u (b9s (b5T (u0 _) x).2.2 y)) (av u (nr (mv u (mv u ?_)))))
   obtain⟨aj,ak,al⟩:=ob ai
   refine li underlying46 E6 (k.mono o) ak fun am an bc ao ap=>?_
   obtain⟨rfl,aq⟩:=ao
   have ar:F1 _ am an [V6 aj]:=ap
   refine lv (y9 E6 u m (ar 0 _ u)) (mv u ?_)
   obtain⟨bd,au,aw⟩:=ob al
   refine lk c6v (b2u F m.enter0 aq J au) ?_
   rintro be bf ⟨S,rfl,B⟩
   have T:=(m.c0 B).t0
   refine nq (D5 aw u (fun ax C=>?_) (fun ax C=>?_))
   ·refine j5 (mv u (lv (y7 u u) (av u (nb ?_))))
    cases oi C
    exact qd ⟨_,u,S,u,T,(o.trans B.le),(u0 _),af⟩
   refine j5 (mv u (av u (nb ?_)))
   cases oi C
   exact qd ⟨_,u,S,u,T,(o.trans B.le),R,(b9s (b5T (u0 _) x).2.2 y)⟩
  refine y4 (g8 (g8 ?_))
  cases oi s
  cases ad _ u
  refine l6 ?_
  cases oi ab
  exact qd ⟨ae,u,m,o,R⟩
 rintro _ bg ⟨U,rfl,i,V,q⟩
 refine qr (mv u (mv u (mv u (lv (u7 u u) (mv u (bt Y (fun c D=>?_) (fun c D=>?_)))))))
 ·refine lg c (i5 u) (lg c (i5 u) ?_)
  obtain⟨ay,az,aA⟩:=ob D
  refine N1 (t:=D6) (wg u u c) u underlying46 E6 u u (k.mono V) az fun aB aC bh aD aE=>?_
  obtain⟨rfl,bi⟩:=aD
  have aF:F1 _ aB aC [V6 ay]:=aE
  refine lg c (y9 E6 u i (aF 0 _ u)) (lg c (i5 u) (lg c (A9 u u) (lg c (i5 u) (bt aA (fun d G=>?_) (fun d G=>?_)))))
  ·iterate 6 refine lu d ?_
   refine A8 (uu u u) u (A8 (uu u u) u (lu d (lg c (J6 u d u) (lv (n9 u c u) (av u (av u (nq (j9 ?_))))))))
   cases oi G
   exact S7 (vs:=[_,_]) results233 ⟨u,u,trivial⟩ ⟨U,u,i,q⟩
  refine lg d (i5 u) (lg d (i5 u) ?_)
  obtain⟨W,aG,aH⟩:=ob G
  refine N1 (t:=D6) (wg u u d) u underlying46 E6 u u (k.mono V) aG fun aI aJ bj aK aL=>?_
  obtain⟨rfl,aM⟩:=aK
  have aN:F1 _ aI aJ [V6 W]:=aL
  refine lg d (y9 E6 u i (aN 0 _ u)) ?_
  obtain⟨bk,aO,aP⟩:=ob aH
  refine A3 (wg u u d) u (A2 (vs:=[V6 W]) c38 u) (a5E F i.enter0 aM aO) ?_
  rintro bl bm ⟨aQ,rfl,aR⟩
  refine⟨_,u,?_⟩
  have H:=(i.c0 aR).t0
  refine lg d (i5 u) (bt aP (fun f I=>?_) (fun f I=>?_))
  ·refine lg f (i5 u) ?_
   obtain⟨bn,aS,aT⟩:=ob I
   refine A3 (wg u u f) u (A2 (vs:=[V6 q1]) c38 u) (a5E F H.enter0 J aS) ?_
   rintro bo bp ⟨aU,rfl,aV⟩
   refine⟨_,u,?_⟩
   have aW:=(H.c0 aV).t0
   refine lg d (n9 u f u) (lg c (l9 u d u) (lv (n9 u c u) (av u (av u (nq (j9 ?_))))))
   cases oi aT
   exact S7 (vs:=[_,_]) results233 ⟨u,u,trivial⟩ ⟨aU,u,aW,q⟩
  refine lu f (lu f (lg d (L8 u f u) (lg c (l9 u d u) (lv (n9 u c u) (av u (av u (nq (j9 ?_))))))))
  cases oi I
  exact S7 (vs:=[_,_]) results233 ⟨u,u,trivial⟩ ⟨aQ,u,H,q⟩
 iterate 7 refine lu c ?_
 refine A8 (uu u u) u (A8 (uu u u) u (A8 (uu u u) u (A8 (uu u u) u (A8 (uu u u) u (A8 (uu u u) u (A8 (uu u u) u (A8 (uu u u) u (A8 (uu u u) u (lu c ?_)))))))))
 refine lv (L8 u c u) (av u (av u (nq (j9 ?_))))
 cases oi D
 exact S7 (vs:=[_,_]) results233 ⟨u,u,trivial⟩ ⟨U,u,i,q⟩

theorem b5W {q0:List Int}{q1:Int}{r:Int×Bool}(hS:SH w K [] w K [])(c:b7 D6 K A a b q0)(l:i7 q1)(hm:a5l F q0 q1=some r):
  Calls prog 205 #[V3 A a b,V6 q1] w fun e w'=>∃K',e= .returned (.tuple #[V6 r.1,.bool r.2])∧SH w K [] w' K' []∧i7 r.1:=by
 rw [a5l] at hm
 refine ci func205 u ntmps205 (sr (lv (N2 u) (lv (O6 u) (nr (mv u (mv u ?_))))))
 obtain⟨J,m,o⟩:=ob hm
 refine lk c6r (a56 F hS.enter0 c l m) ?_
 rintro O R ⟨k,rfl,d,S⟩
 have f:=(hS.c0 d).t0
 refine mv u (lv (y3 u u) (lv (y3 u u) (av u (av u (O7 (mv u (mv u (lv (q9 underlying46 u (c.mono d.le)) (lv (A9 u u) ?_)))))))))
 refine nq (D5 o u (fun q i=>?_) (fun q i=>?_))
 ·refine sr (lv (N2 u) (lv (O6 u) (nq (rr ?_))))
  cases oi i
  exact S7 (vs:=[_,_]) results205 ⟨u,u,trivial⟩ ⟨k,u,f,I5⟩
 refine j3 (qr (mv u (mv u ?_)))
 obtain⟨s,x,y⟩:=ob i
 refine li underlying46 E6 (c.mono d.le) x fun B C T D G=>?_
 obtain⟨rfl,H⟩:=D
 have I:F1 _ B C [V6 s]:=G
 refine lv (y9 E6 u f (I 0 _ u)) (av u (lv (r_t u) (nq (j9 ?_))))
 cases oi y
 exact S7 (vs:=[_,_]) results205 ⟨u,u,trivial⟩ ⟨k,u,f,H⟩

theorem a1J {q0:T0}{q1:r4}{r:(List r4)}(hS:SH w K Z w K [s7 g1 [V3 A a b,V3 B c d,V3 C f i,V3 D k l] 113])(aS:b7 D9 K A a b q0.c_.Stops)(aT:b7 L0 K B c d q0.c_.Syns)(aU:b7 F6 K C f i q0.s_.Docs)(O:b7 B8 K D k l q0.s_.Entries)(aV:q1.length≤maxLen)(hm:J3 F q0 q1=some r):
  Calls prog 99 #[.pointer (some ⟨g1,2,none⟩),sv q1] w fun e w'=>∃a_1 n_2 c_3 K',e= .returned (V3 a_1 n_2 c_3)∧SH w K Z w' K' [tail (V3 a_1 n_2 c_3) 9 1,s7 g1 [V3 A a b,V3 B c d,V3 C f i,V3 D k l] 113]∧b7 D9 K' a_1 n_2 c_3 r:=by
 rw [J3] at hm
 refine ci func99 u ntmps99 (sr (lv (r_n u) (nr (b0 D9 underlying23 G7 hS fun af aW V R ag Y=>(av u (O7 (mv u (lv (B7 u) (fl M2 u a1e m1 Y u ?_)))))))))
 refine lv (q9 underlying28 u (O.mono R)) (lv (r_m u) (nq ?_))
 obtain⟨ah,ai,aj⟩:=ob hm
 refine l4 (fun E' w'=>∃y G H I,E'=[(0,.pointer (some ⟨g1,2,none⟩)),(5,V3 y G H)]∧SH w K Z w' I [s7 g1 [V3 A a b,V3 B c d,V3 C f i,V3 D k l] 113,tail (V3 y G H) 9 1]∧M0 V I∧b7 D9 I y G H ah) ?_ ?_
 ·refine j7 ?_
  obtain⟨aX,ak,am⟩:=ob ai
  refine qF (fun (aa:Nat) (W:(List r4)) E' w'=>∃m o q s,E'=[(0,.pointer (some ⟨g1,2,none⟩)),(1,sv q1),(5,V3 m o q),(12,V3 D k l),(13,V6 (q0.s_.Entries.length:Int)),(14,V6 ((aa:Nat):Int))]∧SH w K Z w' s [s7 g1 [V3 A a b,V3 B c d,V3 C f i,V3 D k l] 113,tail (V3 m o q) 9 1]∧M0 V s∧b7 D9 s m o q W) ak ⟨af,0,0,V,u,Y.f1,kr,ag⟩ ?_ ?_
  ·rintro aa W _ an aY hi51 ao ⟨m,o,q,s,rfl,S,J,T⟩
   refine sr (lv (u7 u u) (ns (C9 u (b8 (by omega)) (j3 (l5 (o4 (j7 (sr ?_))))))))
   obtain⟨x,ap,aq⟩:=ob ao
   refine li underlying28 P2 (O.mono (R.trans J)) ap fun ar au aZ aw ax=>?_
   obtain⟨ab,ac,ad,rfl,ba,ay,bb⟩:=aw
   have az:F1 _ ar au [sv x.Field,sv x.Term,V3 ab ac ad]:=ax
   refine lv (F3 P2 u S az u) (al P2 S fun aA bc aB=>?_)
   have aC:SH _ _ _ _ _ [s7 aA [sv [],sv [],V3 none 0 0] 99,_,_]:=aB
   refine lw [sv x.Field,sv x.Term,V3 ab ac ad] P2 aC fun bd U=>(nr (fl a3z u G7 m0 U u (mv u (lv (J8 u u) (nq (D5 aq u (fun aD X=>?_) (fun aD X=>?_)))))))
   ·refine j5 (mv u (fl a21 u G7 m0 U u (lb D9 (sv x.Term) [sv x.Term] x.Term underlying23 G7 ⟨u,ay⟩ U fun be bf bg ae aE aF=>?_)))
    obtain⟨bh,aG,aH⟩:=ob X
    refine lp underlying23 G7 (T.mono ae) aE aG aF.f3 fun aI aJ aK bi aL aM aN aO=>(av u (nb (qg (lv (B6 u u (C6 hi51 (b7.max (O.mono R)))) (mv u (i8 ?_))))))
    cases oi aH
    exact qd ⟨aI,aJ,aK,aL,u,aO.f3.s,((J.trans ae).trans aM),aN⟩
   refine j3 (x8 (qg (lv (B6 u u (C6 hi51 (b7.max (O.mono R)))) (mv u (i8 ?_)))))
   cases oi X
   exact qd ⟨m,o,q,s,u,U.s,J,T⟩
  rintro W _ an aP ⟨m,o,q,s,rfl,S,J,T⟩
  subst aP
  refine sr (lv (u7 u u) (ns (C8 u (c6 (by omega)) (y4 (g8 (g8 (l6 ?_)))))))
  cases oi am
  exact qd ⟨m,o,q,s,u,S,J,T⟩
 rintro _ bj ⟨y,G,H,I,rfl,aQ,bk,aR⟩
 refine qr (mv u (av u (nq (j9 ?_))))
 cases oi aj
 exact ey results99 ⟨y,G,H,I,u,aQ.f1,aR⟩

theorem a2l {q0:A5}{q1:r4}{q2:r4}{r:(List F7)}(hS:SH w K [] w K [])(aP:b7 F6 K A a b q0.Docs)(m:b7 B8 K B c d q0.Entries)(aQ:q1.length≤maxLen)(aR:q2.length≤maxLen)(hm:a1u F q0 q1 q2=some r):
  Calls prog 173 #[.agg #[V3 A a b,V3 B c d],sv q1,sv q2] w fun e w'=>∃a_1 n_2 c_3 K',e= .returned (V3 a_1 n_2 c_3)∧SH w K [] w' K' []∧b7 S2 K' a_1 n_2 c_3 r:=by
 rw [a1u] at hm
 refine ci func173 u ntmps173 (sr (bx u hS fun l aS W=>?_))
 have X:SH _ _ _ _ _ [s7 l [V3 A a b,V3 B c d] 30]:=W
 refine lv (r_n u) (O7 (lv (N2 u) (nq ?_)))
 obtain⟨Y,aa,o⟩:=ob hm
 refine l4 (IE Y w K [] K [] []) ?_ ?_
 ·refine j7 ?_
  obtain⟨aT,ab,G⟩:=ob aa
  refine qw (fun (q:Int)=>IW w K [] K [(1,sv q1),(2,sv q2),(3,pt l),(7,V6 q)] [s7 l [V3 A a b,V3 B c d] 30] (i7 q)) ab ⟨K,u,X,kr,I5⟩ ?_
  rintro q _ aU aV ac H ⟨s,rfl,i,k,aW⟩
  refine o4 (sr (mv u (fl M2 u a1e m0 i u (lv (q9 underlying28 u (m.mono k)) (lv (u7 u u) (nq (D5 ac u (fun ad y=>?_) (fun ad y=>?_))))))))
  ·refine j3 (qs (j7 (o4 ?_)))
   obtain⟨ae,af,ag⟩:=ob y
   refine l4 (IV w K [] s [(1,sv q1),(2,sv q2),(3,pt l),(7,V6 q),(32,.bool ae)] [s7 l [V3 A a b,V3 B c d] 30]) ?_ ?_
   ·refine j5 (fl M2 u a1e m0 i u (mv u ?_))
    obtain⟨I,ah,ai⟩:=ob af
    refine li underlying28 P2 (m.mono k) ah fun aj ak aX al am=>?_
    obtain⟨an,ao,ap,rfl,aY,aZ,ba⟩:=al
    have aq:F1 _ aj ak [sv I.Field,sv I.Term,V3 an ao ap]:=am
    refine fa a3z u (lv (y9 G7 u i (aq 0 _ u)) (mv u (lv (J8 u u) (mv u (bt ai (fun f C=>?_) (fun f C=>?_))))))
    ·refine lg f (c7 M2 u) (lg f (w8 a1e u m0 i u) (lg f (i5 u) ?_))
     obtain⟨J,ar,au⟩:=ob C
     refine N1 (t:=B8) (wg u u f) u underlying28 P2 u u (m.mono k) ar fun aw ax bb ay az=>?_
     obtain⟨aA,aB,aC,rfl,bc,bd,be⟩:=ay
     have aD:F1 _ aw ax [sv J.Field,sv J.Term,V3 aA aB aC]:=az
     refine lg f (c7 a21 u) (lg f (y9 G7 u i (aD 1 _ u)) (lg f (i5 u) (lg f (J8 u u) (lv (n9 u f u) (i8 ?_)))))
     cases oi au
     exact qd ⟨s,u,i,kr⟩
    iterate 8 refine lu f ?_
    refine lv (L8 u f u) (i8 ?_)
    cases oi C
    exact qd ⟨s,u,i,kr⟩
   rintro _ bf ⟨O,rfl,x,R⟩
   refine l5 (D5 ag u (fun aE D=>?_) (fun aE D=>?_))
   ·refine sr (fl M2 u a1e m0 x u (mv u ?_))
    obtain⟨S,aF,aG⟩:=ob D
    refine li underlying28 P2 (m.mono (k.trans R)) aF fun aH aI bg aJ aK=>?_
    obtain⟨T,U,V,rfl,bh,bi,aL⟩:=aJ
    have aM:F1 _ aH aI [sv S.Field,sv S.Term,V3 T U V]:=aK
    refine fa Y0 u (lv (y9 a5B u x (aM 2 _ u)) (av u (nq (j9 (i9 (c9 (c9 ?_)))))))
    cases oi aG
    cases H _ u
    refine i9 (c9 ?_)
    cases oi G
    refine c9 ?_
    cases oi o
    exact ey results173 ⟨T,U,V,O,u,x.s,aL⟩
   refine j3 (x8 (l5 (j5 (mv u (lv (y7 u u) (av u (i8 ?_)))))))
   cases oi D
   exact qd ⟨_,u,O,u,x,(k.trans R),(u0 _)⟩
  refine y4 (g8 (g8 ?_))
  cases oi y
  cases H _ u
  refine l6 ?_
  cases oi G
  exact L6 ⟨_,s,u,u,i.s,k⟩ trivial
 rintro _ bj ⟨bk,aN,rfl,rfl,aO,bl⟩
 have o:=E9 o
 refine qr (lv (r_n u) (nq (j9 ?_)))
 cases oi o
 exact ey results173 ⟨none,0,0,aN,u,aO,(b7.nil _ _)⟩

theorem a6F {q0:A5}{q1:r4}{q2:r4}{q3:Int}{r:(List Int)}(hS:SH w K [] w K [])(J:b7 F6 K A a b q0.Docs)(O:b7 B8 K B c d q0.Entries)(R:q1.length≤maxLen)(S:q2.length≤maxLen)(aJ:i7 q3)(hm:a1P F q0 q1 q2 q3=some r):
  Calls prog 169 #[.agg #[V3 A a b,V3 B c d],sv q1,sv q2,V6 q3] w fun e w'=>∃a_1 n_2 c_3 K',e= .returned (V3 a_1 n_2 c_3)∧SH w K [] w' K' []∧b7 D6 K' a_1 n_2 c_3 r:=by
 rw [a1P] at hm
 refine ci func169 u ntmps169 (sr (bx u hS fun T aK U=>?_))
 have l:SH _ _ _ _ _ [s7 T [V3 A a b,V3 B c d] 30]:=U
 refine lv (r_n u) (nr (lv (j6 (ds:=[V3 A a b,V3 B c d]) C4 u m0 l u u) (mv u (mv u ?_))))
 obtain⟨aL,V,W⟩:=ob hm
 refine lk b6v (a2l F l.enter0 J O R S V) ?_
 rintro aM aN ⟨X,Y,aa,m,rfl,ab,o⟩
 have ac:=(l.c0 ab).t1
 refine av u (O7 (lv (N2 u) (nq ?_)))
 obtain⟨ad,ae,k⟩:=ob W
 refine l4 (IE ad w K [] m [] []) ?_ ?_
 ·refine j7 ?_
  obtain⟨aO,af,C⟩:=ob ae
  have ag:=ac.sb (sd sz)
  refine qw (fun (q:Int)=>IW w K [] m [(3,V6 q3),(9,V3 X Y aa),(10,V6 q)] [] (i7 q)) af ⟨m,u,ag,kr,I5⟩ ?_
  rintro q _ aP aQ ah D ⟨s,rfl,f,i,aR⟩
  refine o4 (sr (mv u (mv u (lv (q9 underlying37 u (o.mono i)) (lv (u7 u u) (nq (D5 ah u (fun ai x=>?_) (fun ai x=>?_))))))))
  ·refine j3 (qs (j7 (sr (mv u (mv u ?_)))))
   obtain⟨aj,ak,al⟩:=ob x
   refine li underlying37 a02 (o.mono i) ak fun am an aS ao ap=>?_
   obtain⟨aq,ar,au,rfl,aT,aU⟩:=ao
   have aw:F1 _ am an [V6 aj.Doc,V3 aq ar au]:=ap
   refine fa a5U u (lv (y9 E6 u f (aw 0 _ u)) (mv u (lv (A9 u u) (nq (D5 al u (fun ax y=>?_) (fun ax y=>?_))))))
   ·refine sr (mv u (mv u ?_))
    obtain⟨ay,az,aA⟩:=ob y
    refine li underlying37 a02 (o.mono i) az fun aB aC aV aD aE=>?_
    obtain⟨G,H,I,rfl,aW,aF⟩:=aD
    have aG:F1 _ aB aC [V6 ay.Doc,V3 G H I]:=aE
    refine fa a4M u (lv (y9 a1g u f (aG 1 _ u)) (av u (nq (j9 (i9 (c9 (c9 ?_)))))))
    cases oi aA
    cases D _ u
    refine i9 (c9 ?_)
    cases oi C
    refine c9 ?_
    cases oi k
    exact ey results169 ⟨G,H,I,s,u,f,aF⟩
   refine j3 (x8 (l5 (j5 (mv u (lv (y7 u u) (av u (i8 ?_)))))))
   cases oi y
   exact qd ⟨_,u,s,u,f,i,(u0 _)⟩
  refine y4 (g8 (g8 ?_))
  cases oi x
  cases D _ u
  refine l6 ?_
  cases oi C
  exact L6 ⟨_,s,u,u,f,i⟩ trivial
 rintro _ aX ⟨aY,aH,rfl,rfl,aI,aZ⟩
 have k:=E9 k
 refine qr (lv (r_n u) (nq (j9 ?_)))
 cases oi k
 exact ey results169 ⟨none,0,0,aH,u,aI,(b7.nil _ _)⟩

theorem b3O (F:Nat): ∀{w:World} {K:F9} {q0:Int} {q1:Int} {r:Int} (hS:SH w K [] w K []) (d:i7 q0) (f:i7 q1) (hm:a06 F q0 q1=some r),
  Calls prog 234 #[V6 q0,V6 q1] w (R_i w K r):=by
 induction F with
 | zero=>intros;rename_i hm;rw [a06] at hm;cases hm
 | succ F ih=>
  intro w K q0 q1 r hS d f hm
  rw [a06] at hm
  refine ci func234 u ntmps234 (sr (lv (N2 u) (O7 (mv u (lv (u7 u u) (nq ?_))))))
  obtain⟨i,m,o⟩:=ob hm
  refine l4 (IW w K [] K [(0,V6 i),(1,V6 q1)] [] (i7 i)) ?_ ?_
  ·refine D5 m u (fun q a=>?_) (fun q a=>?_)
   ·refine j5 (mv u (lv (a8I u) (av u (i8 ?_))))
    cases oi a
    exact qd ⟨K,u,hS,kr,(u0 _)⟩
   refine j3 ?_
   cases oi a
   exact qd ⟨K,u,hS,kr,d⟩
  rintro _ I ⟨s,rfl,b,J,k⟩
  refine qs (sr (mv u (lv (A9 u u) (nq (D5 o u (fun x c=>?_) (fun x c=>?_))))))
  ·refine sr (mv u (av u (nq (rr ?_))))
   cases oi c
   exact ey results234 ⟨s,u,b,k⟩
  refine j3 (qr (mv u (mv u (mv u ?_))))
  obtain⟨O,l,y⟩:=ob c
  refine lv (a8J u u l) ?_
  obtain⟨R,A,B⟩:=ob y
  refine lk c36 (ih b.enter0 f (b29 k l) A) ?_
  rintro S T ⟨C,rfl,D,G⟩
  have H:=(b.c0 D).t0
  refine av u (nq (j9 ?_))
  cases oi B
  exact ey results234 ⟨C,u,H,G⟩

theorem b2D {q0:Int}{q1:Int}{r:a6l}(hS:SH w K [] w K [])(s:i7 q0)(v:i7 q1)(hm:a2J F q0 q1=some r):
  Calls prog 208 #[V6 q0,V6 q1] w fun e w'=>∃K',e= .returned (.agg #[V6 r.Up,V6 r.Down])∧SH w K [] w' K' []∧i7 r.Up∧i7 r.Down:=by
 rw [a2J] at hm
 refine ci func208 u ntmps208 (sr (al V4 hS fun g3 S x=>?_))
 have d:SH _ _ _ _ _ [s7 g3 [V6 0,V6 0] 50]:=x
 refine O7 (mv u (lv (u7 u u) (nq ?_)))
 obtain⟨a,y,A⟩:=ob hm
 refine l4 (IW w K [] K [(0,V6 a.1),(1,V6 a.2),(4,pt g3)] [s7 g3 [V6 0,V6 0] 50] (i7 a.1∧i7 a.2)) ?_ ?_
 ·refine D5 y u (fun B b=>?_) (fun B b=>?_)
  ·refine sr (mv u (lv (a8I u) (av u (nq (j5 (mv u (lv (a8I u) (av u (i8 ?_)))))))))
   cases oi b
   exact qd ⟨K,u,d,kr,(u0 _),(u0 _)⟩
  refine j3 ?_
  cases oi b
  exact qd ⟨K,u,d,kr,s,v⟩
 rintro _ T ⟨U,rfl,f,V,C,D⟩
 refine qr (mv u (mv u ?_))
 obtain⟨W,G,H⟩:=ob A
 refine lk c36 (b3O F f.enter0 C D G) ?_
 rintro X Y ⟨i,rfl,I,aa⟩
 have J:=(f.c0 I).t1
 refine av u (ns ?_)
 have k:=J.drew
 refine wh1 (fun w'=>H0 i w') (fun w'=>True) 8 [] mixed (k.hasK kr) (fun _=>trivial) (gt (i5 u) (gt (i5 u) ?_))
 obtain⟨l,m,O⟩:=ob H
 refine gt (a4D u u m) (gt (i5 u) (gt (i5 u) ?_))
 obtain⟨o,q,R⟩:=ob O
 refine gt (a4D u u q) (gt (C3 (cs:=#[V6 l,V6 o]) c6M V4 u (by kernel_rfl)) (gn (lw [V6 l,V6 o] V4 k fun ab c=>(i8 (qh (c.hasK kr) (fun _=>trivial) (gd' (l5 (j9 ?_))))))))
 cases oi R
 exact ez results208 V4 c m0 ⟨i,u,c.s,(a32 m),(a32 q)⟩

theorem b2H {q0:Int}{q1:Int}{r:Int}(hS:SH w K [] w K [])(s:i7 q0)(U:i7 q1)(hm:a2M F q0 q1=some r):
  Calls prog 209 #[V6 q0,V6 q1] w (R_i w K r):=by
 rw [a2M] at hm
 refine ci func209 u ntmps209 (sr (lv (N2 u) (nr (lv (N2 u) (ns ?_)))))
 obtain⟨i,x,y⟩:=ob hm
 refine l4 (IW w K [] K [(5,V6 i)] [] (i7 i)) ?_ ?_
 ·refine j7 ?_
  obtain⟨V,A,B⟩:=ob x
  refine qw (fun (b:Int×Int)=>IW w K [] K [(0,V6 b.1),(1,V6 q1),(5,V6 b.2)] [] (i7 b.1∧i7 b.2)) A ⟨K,u,hS,kr,s,I5⟩ ?_
  rintro b _ W X C D ⟨c,rfl,k,l,Y,G⟩
  refine o4 (o4 ?_)
  obtain⟨H,I,J⟩:=ob C
  refine l4 (IV w K [] c [(0,V6 b.1),(1,V6 q1),(5,V6 b.2),(13,.bool H)] []) ?_ ?_
  ·refine j5 (mv u (lv (E7 u u) (mv u (bt I (fun a d=>?_) (fun a d=>?_)))))
   ·refine lg a (i5 u) (lg a (U4 u u) (lg a (i5 u) (lg a (V2 u u) (lv (n9 u a u) (i8 ?_)))))
    cases oi d
    exact qd ⟨c,u,k,kr⟩
   refine lu a (lu a (lu a (lu a (lv (L8 u a u) (i8 ?_)))))
   cases oi d
   exact qd ⟨c,u,k,kr⟩
  rintro _ aa ⟨m,rfl,o,q⟩
  refine l5 (D5 J u (fun O f=>?_) (fun O f=>?_))
  ·refine j3 (l5 (j7 (sr (mv u (lv (U4 u u) (av u (nq (j5 (mv u ?_)))))))))
   refine lv (y7 u u) (av u (nb ?_))
   cases oi f
   exact qd ⟨_,u,m,u,o,(l.trans q),(u0 _),(u0 _)⟩
  refine y4 (g8 (g8 ?_))
  cases oi f
  cases D _ u
  refine l6 ?_
  cases oi B
  exact qd ⟨m,u,o,(l.trans q),G⟩
 rintro _ w9 ⟨R,rfl,S,ac,T⟩
 refine qr (mv u (av u (nq (j9 ?_))))
 cases oi y
 exact ey results209 ⟨R,u,S,T⟩

theorem a2i {q0:Int}{q1:Int}{q2:Int}{q3:Int}{q4:Int}{r:a6l}(hS:SH w K [] w K [])(U:i7 q0)(V:i7 q1)(W:i7 q2)(o:i7 q3)(q:i7 q4)(hm:a2N F q0 q1 q2 q3 q4=some r):
  Calls prog 170 #[V6 q0,V6 q1,V6 q2,V6 q3,V6 q4] w fun e w'=>∃K',e= .returned (.agg #[V6 r.Up,V6 r.Down])∧SH w K [] w' K' []∧i7 r.Up∧i7 r.Down:=by
 rw [a2N] at hm
 refine ci func170 u ntmps170 (sr (al V4 hS fun a X s=>?_))
 have c:SH _ _ _ _ _ [s7 a [V6 0,V6 0] 50]:=s
 refine nr (lv (u9 (v:=V6 1) u) (O7 (mv u (lv (E7 u u) (nq ?_)))))
 obtain⟨d,x,y⟩:=ob hm
 refine l4 (IW w K [] K [(0,V6 q0),(3,V6 q3),(4,V6 q4),(10,pt a),(11,V6 d)] [s7 a [V6 0,V6 0] 50] (i7 d)) ?_ ?_
 ·refine D5 x u (fun A b=>?_) (fun A b=>?_)
  ·refine j5 (mv u (mv u (lv (U4 u u) (lv (U4 u u) (mv u ?_)))))
   obtain⟨Y,f,B⟩:=ob b
   refine lv (a4D u u f) (av u (i8 ?_))
   cases oi B
   exact qd ⟨K,u,c,kr,(a32 f)⟩
  refine j3 ?_
  cases oi b
  exact qd ⟨K,u,c,kr,(by decide :i7 1)⟩
 rintro _ aa ⟨ab,rfl,i,ac,ad⟩
 refine qr (mv u (mv u ?_))
 obtain⟨ae,C,D⟩:=ob y
 refine lk c6m (b2H F i.enter0 q o C) ?_
 rintro af ag ⟨ah,rfl,G,ai⟩
 have k:=(i.c0 G).t1
 refine lv (y7 u u) (lv (U4 u u) (mv u (lv (U4 u u) (mv u (lv (U4 u u) (lv (y7 u u) (mv u (lv (y7 u u) ?_))))))))
 obtain⟨l,H,I⟩:=ob D
 refine lk c6l (b2D F k.enter0 (u0 _) (u0 _) H) ?_
 rintro aj ak ⟨J,rfl,O,R,S⟩
 have T:=(k.c0 O).t1
 refine lw [V6 l.Up,V6 l.Down] V4 T fun am m=>(nq (j9 ?_))
 cases oi I
 exact ez results170 V4 m m0 ⟨J,u,m.s,R,S⟩

theorem a8B {q0:A5}{q1:r4}{q2:Int}{r:Int}(hS:SH w K [] w K [])(bX:b7 F6 K A a b q0.Docs)(x:b7 B8 K B c d q0.Entries)(bY:q1.length≤maxLen)(bZ:i7 q2)(hm:a3P F q0 q1 q2=some r):
  Calls prog 171 #[.agg #[V3 A a b,V3 B c d],sv q1,V6 q2] w (R_i w K r):=by
 rw [a3P] at hm
 refine ci func171 u ntmps171 (sr (bx u hS fun i ca ab=>?_))
 have ac:SH _ _ _ _ _ [s7 i [V3 A a b,V3 B c d] 30]:=ab
 refine lv (N2 u) (nr (lv (N2 u) (O7 (lv (N2 u) (nq ?_)))))
 obtain⟨S,ad,ae⟩:=ob hm
 refine l4 (IW w K [] K [(7,V6 S)] [] (i7 S)) ?_ ?_
 ·refine j7 ?_
  obtain⟨cb,af,ag⟩:=ob ad
  refine qw (fun (l:Int×Int)=>IW w K [] K [(1,sv q1),(2,V6 q2),(3,pt i),(7,V6 l.1),(8,V6 l.2)] [s7 i [V3 A a b,V3 B c d] 30] (i7 l.1∧i7 l.2)) af ⟨K,u,ac,kr,I5,I5⟩ ?_
  rintro l _ cc cd ah ai ⟨C,rfl,D,m,T,ce⟩
  refine o4 (sr (mv u (fl M2 u a1e m0 D u (lv (q9 underlying28 u (x.mono m)) (lv (u7 u u) (nq (D5 ah u (fun aj G=>?_) (fun aj G=>?_))))))))
  ·refine j3 (qs (j7 (sr (lv (N2 u) (nq ?_)))))
   obtain⟨U,ak,al⟩:=ob G
   refine l4 (IW w K [] C [(1,sv q1),(2,V6 q2),(3,pt i),(7,V6 U),(8,V6 l.2)] [s7 i [V3 A a b,V3 B c d] 30] (i7 U)) ?_ ?_
   ·refine j7 ?_
    obtain⟨cf,am,an⟩:=ob ak
    refine qw (fun (o:Int×Int)=>IW w K [] C [(1,sv q1),(2,V6 q2),(3,pt i),(7,V6 o.1),(8,V6 l.2),(9,V6 o.2)] [s7 i [V3 A a b,V3 B c d] 30] (i7 o.1∧i7 o.2)) am ⟨C,u,D,kr,T,I5⟩ ?_
    rintro o _ cg ch ao ap ⟨H,rfl,s,q,V,cj⟩
    refine o4 (o4 ?_)
    obtain⟨aq,ar,au⟩:=ob ao
    refine l4 (IV w K [] H [(1,sv q1),(2,V6 q2),(3,pt i),(7,V6 o.1),(8,V6 l.2),(9,V6 o.2),(35,.bool aq)] [s7 i [V3 A a b,V3 B c d] 30]) ?_ ?_
    ·refine j5 (mv u (fl M2 u a1e m0 s u (mv u ?_)))
     obtain⟨W,aw,ax⟩:=ob ar
     refine li underlying28 P2 (x.mono (m.trans q)) aw fun ay az ck aA aB=>?_
     obtain⟨aC,aD,aE,rfl,cl,cm,aF⟩:=aA
     have aG:F1 _ ay az [sv W.Field,sv W.Term,V3 aC aD aE]:=aB
     refine fa Y0 u (lv (y9 a5B u s (aG 2 _ u)) (lv (q9 underlying37 u aF) (lv (u7 u u) (mv u (bt ax (fun f I=>?_) (fun f I=>?_))))))
     ·refine lg f (c7 M2 u) (lg f (w8 a1e u m0 s u) (lg f (i5 u) ?_))
      obtain⟨X,aH,aI⟩:=ob I
      refine N1 (t:=B8) (wg u u f) u underlying28 P2 u u (x.mono (m.trans q)) aH fun aJ aK cn aL aM=>?_
      obtain⟨aN,aO,aP,rfl,cp,cq,cr⟩:=aL
      have aQ:F1 _ aJ aK [sv X.Field,sv X.Term,V3 aN aO aP]:=aM
      refine lg f (c7 a3z u) (lg f (y9 G7 u s (aQ 0 _ u)) (lg f (i5 u) (lg f (J8 u u) (lv (n9 u f u) (i8 ?_)))))
      cases oi aI
      exact qd ⟨H,u,s,kr⟩
     iterate 8 refine lu f ?_
     refine lv (L8 u f u) (i8 ?_)
     cases oi I
     exact qd ⟨H,u,s,kr⟩
    rintro _ cs ⟨J,rfl,k,y⟩
    refine l5 (D5 au u (fun aR O=>?_) (fun aR O=>?_))
    ·refine j3 (qs (j7 (sr (fl M2 u a1e m0 k u (mv u ?_)))))
     obtain⟨Y,aS,aT⟩:=ob O
     refine li underlying28 P2 (x.mono ((m.trans q).trans y)) aS fun aU aV ct aW aX=>?_
     obtain⟨aY,aZ,ba,rfl,cu,cv,bb⟩:=aW
     have bc:F1 _ aU aV [sv Y.Field,sv Y.Term,V3 aY aZ ba]:=aX
     refine fa Y0 u (lv (y9 a5B u k (bc 2 _ u)) (mv u ?_))
     obtain⟨bd,be,bf⟩:=ob aT
     refine li underlying37 a02 bb be fun bg bh cw bi bj=>?_
     obtain⟨bk,bl,bm,rfl,cx,cy⟩:=bi
     have bn:F1 _ bg bh [V6 bd.Doc,V3 bk bl bm]:=bj
     refine fa a5U u (lv (y9 E6 u k (bn 0 _ u)) (mv u (lv (A9 u u) (nq (D5 bf u (fun bo R=>?_) (fun bo R=>?_))))))
     ·refine j5 (mv u (fl M2 u a1e m0 k u (mv u ?_)))
      obtain⟨aa,bp,bq⟩:=ob R
      refine li underlying28 P2 (x.mono ((m.trans q).trans y)) bp fun br bs cz bu bv=>?_
      obtain⟨bz,bA,bB,rfl,cA,cB,bC⟩:=bu
      have bD:F1 _ br bs [sv aa.Field,sv aa.Term,V3 bz bA bB]:=bv
      refine fa Y0 u (lv (y9 a5B u k (bD 2 _ u)) (mv u ?_))
      obtain⟨bE,bF,bG⟩:=ob bq
      refine li underlying37 a02 bC bF fun bH bI cC bJ bK=>?_
      obtain⟨bL,bM,bN,rfl,cD,bO⟩:=bJ
      have bP:F1 _ bH bI [V6 bE.Doc,V3 bL bM bN]:=bK
      refine fa a4M u (lv (y9 a1g u k (bP 1 _ u)) (lv (q9 underlying46 u bO) (lv (y7 u u) (av u (nb (l5 (j5 (mv u (lv (y7 u u) ?_)))))))))
      refine av u (i8 ?_)
      cases oi bG
      exact qd ⟨_,u,J,u,k,(q.trans y),(u0 _),(u0 _)⟩
     refine j3 (x8 (l5 (j5 (mv u (lv (y7 u u) (av u (i8 ?_)))))))
     cases oi R
     exact qd ⟨_,u,J,u,k,(q.trans y),V,(u0 _)⟩
    refine y4 (g8 (g8 ?_))
    cases oi O
    cases ap _ u
    refine l6 ?_
    cases oi an
    exact qd ⟨J,u,k,(q.trans y),V⟩
   rintro _ cE ⟨bQ,rfl,bR,bS,bT⟩
   refine x8 (l5 (j5 (mv u (lv (y7 u u) (av u (i8 ?_))))))
   cases oi al
   exact qd ⟨_,u,bQ,u,bR,(m.trans bS),bT,(u0 _)⟩
  refine y4 (g8 (g8 ?_))
  cases oi G
  cases ai _ u
  refine l6 ?_
  cases oi ag
  exact qd ⟨C,u,D.s,m,T⟩
 rintro _ cF ⟨bU,rfl,bV,cG,bW⟩
 refine qr (mv u (av u (nq (j9 ?_))))
 cases oi ae
 exact ey results171 ⟨bU,u,bV,bW⟩

theorem a4W {q0:A5}{q1:r4}{r:Int}(hS:SH w K [] w K [])(bv:b7 F6 K A a b q0.Docs)(x:b7 B8 K B c d q0.Entries)(bz:q1.length≤maxLen)(hm:a19 F q0 q1=some r):
  Calls prog 172 #[.agg #[V3 A a b,V3 B c d],sv q1] w (R_i w K r):=by
 rw [a19] at hm
 refine ci func172 u ntmps172 (sr (bx u hS fun i bA X=>?_))
 have Y:SH _ _ _ _ _ [s7 i [V3 A a b,V3 B c d] 30]:=X
 refine lv (N2 u) (nr (lv (N2 u) (O7 (lv (N2 u) (nq ?_)))))
 obtain⟨O,aa,ab⟩:=ob hm
 refine l4 (IW w K [] K [(5,V6 O)] [] (i7 O)) ?_ ?_
 ·refine j7 ?_
  obtain⟨bB,ac,ad⟩:=ob aa
  refine qw (fun (k:Int×Int)=>IW w K [] K [(1,sv q1),(2,pt i),(5,V6 k.1),(6,V6 k.2)] [s7 i [V3 A a b,V3 B c d] 30] (i7 k.1∧i7 k.2)) ac ⟨K,u,Y,kr,I5,I5⟩ ?_
  rintro k _ bC bD ae af ⟨y,rfl,C,m,R,bE⟩
  refine o4 (sr (mv u (fl M2 u a1e m0 C u (lv (q9 underlying28 u (x.mono m)) (lv (u7 u u) (nq (D5 ae u (fun ag D=>?_) (fun ag D=>?_))))))))
  ·refine j3 (qs (j7 (sr (lv (N2 u) (nq ?_)))))
   obtain⟨S,ah,ai⟩:=ob D
   refine l4 (IW w K [] y [(1,sv q1),(2,pt i),(5,V6 S),(6,V6 k.2)] [s7 i [V3 A a b,V3 B c d] 30] (i7 S)) ?_ ?_
   ·refine j7 ?_
    obtain⟨bF,aj,ak⟩:=ob ah
    refine qw (fun (l:Int×Int)=>IW w K [] y [(1,sv q1),(2,pt i),(5,V6 l.1),(6,V6 k.2),(7,V6 l.2)] [s7 i [V3 A a b,V3 B c d] 30] (i7 l.1∧i7 l.2)) aj ⟨y,u,C,kr,R,I5⟩ ?_
    rintro l _ bG bH al am ⟨G,rfl,o,q,an,bI⟩
    refine o4 (o4 ?_)
    obtain⟨ao,ap,aq⟩:=ob al
    refine l4 (IV w K [] G [(1,sv q1),(2,pt i),(5,V6 l.1),(6,V6 k.2),(7,V6 l.2),(33,.bool ao)] [s7 i [V3 A a b,V3 B c d] 30]) ?_ ?_
    ·refine j5 (mv u (fl M2 u a1e m0 o u (mv u ?_)))
     obtain⟨T,ar,au⟩:=ob ap
     refine li underlying28 P2 (x.mono (m.trans q)) ar fun aw ax bJ ay az=>?_
     obtain⟨aA,aB,aC,rfl,bK,bL,aD⟩:=ay
     have aE:F1 _ aw ax [sv T.Field,sv T.Term,V3 aA aB aC]:=az
     refine fa Y0 u (lv (y9 a5B u o (aE 2 _ u)) (lv (q9 underlying37 u aD) (lv (u7 u u) (mv u (bt au (fun f H=>?_) (fun f H=>?_))))))
     ·refine lg f (c7 M2 u) (lg f (w8 a1e u m0 o u) (lg f (i5 u) ?_))
      obtain⟨U,aF,aG⟩:=ob H
      refine N1 (t:=B8) (wg u u f) u underlying28 P2 u u (x.mono (m.trans q)) aF fun aH aI bM aJ aK=>?_
      obtain⟨aL,aM,aN,rfl,bN,bO,bP⟩:=aJ
      have aO:F1 _ aH aI [sv U.Field,sv U.Term,V3 aL aM aN]:=aK
      refine lg f (c7 a3z u) (lg f (y9 G7 u o (aO 0 _ u)) (lg f (i5 u) (lg f (J8 u u) (lv (n9 u f u) (i8 ?_)))))
      cases oi aG
      exact qd ⟨G,u,o,kr⟩
     iterate 8 refine lu f ?_
     refine lv (L8 u f u) (i8 ?_)
     cases oi H
     exact qd ⟨G,u,o,kr⟩
    rintro _ bQ ⟨V,rfl,s,I⟩
    refine l5 (D5 aq u (fun aP J=>?_) (fun aP J=>?_))
    ·refine j3 (qs (j7 (j5 (mv u (fl M2 u a1e m0 s u (mv u ?_))))))
     obtain⟨W,aQ,aR⟩:=ob J
     refine li underlying28 P2 (x.mono ((m.trans q).trans I)) aQ fun aS aT bR aU aV=>?_
     obtain⟨aW,aX,aY,rfl,bS,bT,aZ⟩:=aU
     have ba:F1 _ aS aT [sv W.Field,sv W.Term,V3 aW aX aY]:=aV
     refine fa Y0 u (lv (y9 a5B u s (ba 2 _ u)) (mv u ?_))
     obtain⟨bb,bc,bd⟩:=ob aR
     refine li underlying37 a02 aZ bc fun be bf bU bg bh=>?_
     obtain⟨bi,bj,bk,rfl,bV,bl⟩:=bg
     have bm:F1 _ be bf [V6 bb.Doc,V3 bi bj bk]:=bh
     refine fa a4M u (lv (y9 a1g u s (bm 1 _ u)) (lv (q9 underlying46 u bl) (lv (y7 u u) (av u (nb (l5 (j5 (mv u (lv (y7 u u) ?_)))))))))
     refine av u (i8 ?_)
     cases oi bd
     exact qd ⟨_,u,V,u,s,(q.trans I),(u0 _),(u0 _)⟩
    refine y4 (g8 (g8 ?_))
    cases oi J
    cases am _ u
    refine l6 ?_
    cases oi ak
    exact qd ⟨V,u,s,(q.trans I),an⟩
   rintro _ bW ⟨bn,rfl,bo,bp,bq⟩
   refine x8 (l5 (j5 (mv u (lv (y7 u u) (av u (i8 ?_))))))
   cases oi ai
   exact qd ⟨_,u,bn,u,bo,(m.trans bp),bq,(u0 _)⟩
  refine y4 (g8 (g8 ?_))
  cases oi D
  cases af _ u
  refine l6 ?_
  cases oi ad
  exact qd ⟨y,u,C.s,m,R⟩
 rintro _ bX ⟨br,rfl,bs,bY,bu⟩
 refine qr (mv u (av u (nq (j9 ?_))))
 cases oi ab
 exact ey results172 ⟨br,u,bs,bu⟩

theorem a0W {q0:A5}{q1:r4}{q2:r4}{q3:Int}{r:Int}(hS:SH w K [] w K [])(l:b7 F6 K A a b q0.Docs)(o:b7 B8 K B c d q0.Entries)(q:q1.length≤maxLen)(G:q2.length≤maxLen)(ar:i7 q3)(hm:U9 F q0 q1 q2 q3=some r):
  Calls prog 130 #[.agg #[V3 A a b,V3 B c d],sv q1,sv q2,V6 q3] w (R_i w K r):=by
 rw [U9] at hm
 refine ci func130 u ntmps130 (sr (bx u hS fun aO bL ba=>?_))
 have au:SH _ _ _ _ _ [s7 aO [V3 A a b,V3 B c d] 30]:=ba
 refine lv (N2 u) (nr (lv (j6 (ds:=[V3 A a b,V3 B c d]) C4 u m0 au u u) (mv u (mv u (mv u ?_)))))
 obtain⟨bM,bb,bc⟩:=ob hm
 refine lk c1C (a6F F au.enter0 l o q G ar bb) ?_
 rintro bN bO ⟨bP,bQ,bR,aw,rfl,i,D⟩
 have aP:=(au.c0 i).t1
 refine lv (q9 underlying46 u D) (av u (O7 (mv u (lv (A9 u u) (nq (D5 bc u (fun bd ax=>?_) (fun bd ax=>?_)))))))
 ·refine sr (lv (N2 u) (nq (rr ?_)))
  cases oi ax
  exact ey results130 ⟨aw,u,aP.s,I5⟩
 refine j3 (qs ?_)
 obtain⟨X,be,bf⟩:=ob ax
 refine l4 (fun E' w'=>∃ay Y,E'=[(10,pt ay)]∧SH w K [] w' Y [s7 ay [V6 X.Up,V6 X.Down] 50]∧M0 aw Y∧i7 X.Up∧i7 X.Down) ?_ ?_
 ·obtain⟨bS,aQ,bg⟩:=ob be
  obtain⟨bT,az,bh⟩:=ob bg
  obtain⟨bU,aa,bi⟩:=ob bh
  obtain⟨s,H,I⟩:=ob bi
  have J:=aP.drew
  refine j_0 (fun w'=>H0 aw w'∧B0 aO [V3 A a b,V3 B c d] w') 19 [] mixed ⟨J.hasK kr,J.hasObj m0⟩ (jv 0 u (i5 u) (jh 1 u (fun _ h=>A0 (ds:=[V3 A a b,V3 B c d]) C4 u u u h.2) (jv 2 u (i5 u) (jv 3 u (i5 u) (jh 5 u (fun _ h=>A0 (ds:=[V3 A a b,V3 B c d]) C4 u u u h.2) (jv 6 u (i5 u) (jv 8 u (c7 L3 u) (jh 9 u (fun _ h=>B5 a1b u u h.2) (jv 10 u (q9 underlying27 u (l.mono i.le)) ?_)))))))))
  refine jh 11 u (fun _ h=>A0 (ds:=[V3 A a b,V3 B c d]) C4 u u u h.2) (jv 12 u (i5 u) (jv 13 u (i5 u) (j2 4 17 u u ?_ ?_)))
  ·refine lk c3X (a8B F J.enter0 (l.mono i.le) (o.mono i.le) q ar aQ) ?_
   rintro bV bW ⟨bX,rfl,f,ab⟩
   have O:=(J.c0 f).t1
   refine P0 ⟨O.hasK f.le,O.hasObj m0⟩ (j2 7 17 u u ?_ ?_)
   ·refine lk c1D (a4W F O.enter0 (l.mono (i.le.trans f.le)) (o.mono (i.le.trans f.le)) q az) ?_
    rintro bY bZ ⟨ca,rfl,k,aA⟩
    have R:=(O.c0 k).t1
    refine P0 ⟨R.hasK (f.le.trans k.le),R.hasObj m0⟩ (j2 14 17 u u ?_ ?_)
    ·refine lk b6v (a2l F R.enter0 (l.mono ((i.le.trans f.le).trans k.le)) (o.mono ((i.le.trans f.le).trans k.le)) q G aa) ?_
     rintro cb cc ⟨cd,ce,cf,cg,rfl,x,aB⟩
     have S:=(R.c0 x).t1
     refine P0 ⟨S.hasK ((f.le.trans k.le).trans x.le),S.hasObj m0⟩ (jv 15 u (q9 underlying37 u aB) (j2 16 17 u u ?_ ?_))
     ·refine lk b6u (a2i F S.enter0 D.rn ab aA (l.mono i.le).rn aB.rn H) ?_
      rintro ch cj ⟨bj,rfl,T,bk,bl⟩
      have aC:=(S.c0 T).t1
      refine P0 ⟨aC.hasK (((f.le.trans k.le).trans x.le).trans T.le),aC.hasObj m0⟩ (j1 17 u (al V4 aC fun aR ck bm=>?_))
      have aD:SH _ _ _ _ _ [s7 aR [V6 0,V6 0] 50,_]:=bm
      refine P0 ⟨aD.hasK (((f.le.trans k.le).trans x.le).trans T.le),aD.hasObj m1⟩ (j1 18 u (lw [V6 s.Up,V6 s.Down] V4 aD fun cl aE=>(P0 ⟨aE.hasK (((f.le.trans k.le).trans x.le).trans T.le),aE.hasObj m1⟩ (jd ?_))))
      cases oi I
      exact qd ⟨aR,bj,u,aE.s,(((f.le.trans k.le).trans x.le).trans T.le),bk,bl⟩
     refine al V4 S fun aS cm bn=>?_
     have ac:SH _ _ _ _ _ [s7 aS [V6 0,V6 0] 50,_]:=bn
     refine P0 ⟨ac.hasK ((f.le.trans k.le).trans x.le),ac.hasObj m1⟩ (j1 16 u (lk b6u (a2i F ac.enter0 D.rn ab aA (l.mono i.le).rn aB.rn H) ?_))
     rintro cn cp ⟨bo,rfl,ad,bp,bq⟩
     have aF:=(ac.c0 ad).t2
     refine P0 ⟨aF.hasK (((f.le.trans k.le).trans x.le).trans ad.le),aF.hasObj m1⟩ (j1 18 u (lw [V6 s.Up,V6 s.Down] V4 aF fun cq aG=>(P0 ⟨aG.hasK (((f.le.trans k.le).trans x.le).trans ad.le),aG.hasObj m1⟩ (jd ?_))))
     cases oi I
     exact qd ⟨aS,bo,u,aG.s,(((f.le.trans k.le).trans x.le).trans ad.le),bp,bq⟩
    refine al V4 R fun aT cr br=>?_
    have ae:SH _ _ _ _ _ [s7 aT [V6 0,V6 0] 50,_]:=br
    refine P0 ⟨ae.hasK (f.le.trans k.le),ae.hasObj m1⟩ (j1 14 u (lk b6v (a2l F ae.enter0 (l.mono ((i.le.trans f.le).trans k.le)) (o.mono ((i.le.trans f.le).trans k.le)) q G aa) ?_))
    rintro cs ct ⟨cu,cv,cw,cx,rfl,U,aU⟩
    have af:=(ae.c0 U).t2
    refine P0 ⟨af.hasK ((f.le.trans k.le).trans U.le),af.hasObj m1⟩ (jv 15 u (q9 underlying37 u aU) (j1 16 u (lk b6u (a2i F af.enter0 D.rn ab aA (l.mono i.le).rn aU.rn H) ?_)))
    rintro cy cz ⟨bs,rfl,ag,bu,bv⟩
    have aH:=(af.c0 ag).t2
    refine P0 ⟨aH.hasK (((f.le.trans k.le).trans U.le).trans ag.le),aH.hasObj m1⟩ (j1 18 u (lw [V6 s.Up,V6 s.Down] V4 aH fun cA aI=>(P0 ⟨aI.hasK (((f.le.trans k.le).trans U.le).trans ag.le),aI.hasObj m1⟩ (jd ?_))))
    cases oi I
    exact qd ⟨aT,bs,u,aI.s,(((f.le.trans k.le).trans U.le).trans ag.le),bu,bv⟩
   refine al V4 O fun aV cB bz=>?_
   have ah:SH _ _ _ _ _ [s7 aV [V6 0,V6 0] 50,_]:=bz
   refine P0 ⟨ah.hasK f.le,ah.hasObj m1⟩ (j1 7 u (lk c1D (a4W F ah.enter0 (l.mono (i.le.trans f.le)) (o.mono (i.le.trans f.le)) q az) ?_))
   rintro cC cD ⟨cE,rfl,y,bA⟩
   have ai:=(ah.c0 y).t2
   refine P0 ⟨ai.hasK (f.le.trans y.le),ai.hasObj m1⟩ (j1 14 u (lk b6v (a2l F ai.enter0 (l.mono ((i.le.trans f.le).trans y.le)) (o.mono ((i.le.trans f.le).trans y.le)) q G aa) ?_))
   rintro cF cG ⟨cH,cI,cJ,cK,rfl,V,aW⟩
   have aj:=(ai.c0 V).t2
   refine P0 ⟨aj.hasK ((f.le.trans y.le).trans V.le),aj.hasObj m1⟩ (jv 15 u (q9 underlying37 u aW) (j1 16 u (lk b6u (a2i F aj.enter0 D.rn ab bA (l.mono i.le).rn aW.rn H) ?_)))
   rintro cL cM ⟨bB,rfl,ak,bC,bD⟩
   have aJ:=(aj.c0 ak).t2
   refine P0 ⟨aJ.hasK (((f.le.trans y.le).trans V.le).trans ak.le),aJ.hasObj m1⟩ (j1 18 u (lw [V6 s.Up,V6 s.Down] V4 aJ fun cN aK=>(P0 ⟨aK.hasK (((f.le.trans y.le).trans V.le).trans ak.le),aK.hasObj m1⟩ (jd ?_))))
   cases oi I
   exact qd ⟨aV,bB,u,aK.s,(((f.le.trans y.le).trans V.le).trans ak.le),bC,bD⟩
  refine al V4 J fun aX cO bE=>?_
  have am:SH _ _ _ _ _ [s7 aX [V6 0,V6 0] 50,_]:=bE
  refine P0 ⟨am.hasK kr,am.hasObj m1⟩ (j1 4 u (lk c3X (a8B F am.enter0 (l.mono i.le) (o.mono i.le) q ar aQ) ?_))
  rintro cP cQ ⟨cR,rfl,m,bF⟩
  have an:=(am.c0 m).t2
  refine P0 ⟨an.hasK m.le,an.hasObj m1⟩ (j1 7 u (lk c1D (a4W F an.enter0 (l.mono (i.le.trans m.le)) (o.mono (i.le.trans m.le)) q az) ?_))
  rintro cS cT ⟨cU,rfl,C,bG⟩
  have ao:=(an.c0 C).t2
  refine P0 ⟨ao.hasK (m.le.trans C.le),ao.hasObj m1⟩ (j1 14 u (lk b6v (a2l F ao.enter0 (l.mono ((i.le.trans m.le).trans C.le)) (o.mono ((i.le.trans m.le).trans C.le)) q G aa) ?_))
  rintro cV cW ⟨cX,cY,cZ,da,rfl,W,aY⟩
  have ap:=(ao.c0 W).t2
  refine P0 ⟨ap.hasK ((m.le.trans C.le).trans W.le),ap.hasObj m1⟩ (jv 15 u (q9 underlying37 u aY) (j1 16 u (lk b6u (a2i F ap.enter0 D.rn bF bG (l.mono i.le).rn aY.rn H) ?_)))
  rintro db dc ⟨bH,rfl,aq,bI,bJ⟩
  have aL:=(ap.c0 aq).t2
  refine P0 ⟨aL.hasK (((m.le.trans C.le).trans W.le).trans aq.le),aL.hasObj m1⟩ (j1 18 u (lw [V6 s.Up,V6 s.Down] V4 aL fun dd aM=>(P0 ⟨aM.hasK (((m.le.trans C.le).trans W.le).trans aq.le),aM.hasObj m1⟩ (jd ?_))))
  cases oi I
  exact qd ⟨aX,bH,u,aM.s,(((m.le.trans C.le).trans W.le).trans aq.le),bI,bJ⟩
 rintro _ de ⟨ay,Y,rfl,aN,df,dg,dh⟩
 refine qr (fl b5J u E6 m0 aN u (lv (U4 u u) (fl b1k u E6 m0 aN u ?_)))
 obtain⟨di,aZ,bK⟩:=ob bf
 refine lv (a4D u u aZ) (av u (nq (j9 ?_)))
 cases oi bK
 exact ey results130 ⟨Y,u,aN.s,(a32 aZ)⟩

theorem a9E {q0:Int}{q1:Int}{r:Int}(hS:SH w K [] w K [])(c:i7 q0)(d:i7 q1)(hm:a3k F q0 q1=some r):
  Calls prog 212 #[V6 q0,V6 q1] w (R_i w K r):=by
 rw [a3k] at hm
 refine ci func212 u ntmps212 (sr (lv (N2 u) (O7 (mv u (mv u (lv (u7 u u) (nq (R9 u (fun a=>?_) (fun a=>?_)))))))))
 ·have b:=a1a a hm
  refine sr (mv u (av u (nq (rr ?_))))
  cases oi b
  exact ey results212 ⟨K,u,hS,c⟩
 have b:=a09 a hm
 refine j3 (qr (mv u (av u (nq (j9 ?_)))))
 cases oi b
 exact ey results212 ⟨K,u,hS,d⟩

theorem a9D {q0:r4}{q1:r4}{r:Int}(hS:SH w K [] w K [])(ck:q0.length≤maxLen)(cl:q1.length≤maxLen)(hm:a4o F q0 q1=some r):
  Calls prog 177 #[sv q0,sv q1] w (R_i w K r):=by
 rw [a4o] at hm
 refine ci func177 u ntmps177 (sr (lv (N2 u) (nr (mv u (lv (J9 underlying9 u) (lv (y7 u u) ?_))))))
 obtain⟨x3,aw,h5⟩:=ob hm
 refine b6h (t:=D6) wn u underlying46 E6 u u u aw ⟨u,I5⟩ hS fun b cs7 w9 hmx12 hrow10 ay=>?_
 obtain⟨m13,hm14⟩: ∃m,m=x3.length:=⟨_,u⟩
 rw [←hm14] at hmx12
 rw [←hm14]
 refine av u (O7 (lv (N2 u) (nq ?_)))
 obtain⟨aa,az,aA⟩:=ob h5
 refine l4 (fun E' w'=>∃cs22 o,E'=[(0,sv q0),(1,sv q1),(5,V3 (some ⟨b,0,none⟩) m13 m13)]∧SH w K [] w' o [s7 b cs22 3]∧M0 K o∧E1 true D6 o cs22 aa∧m13=aa.length) ?_ ?_
 ·refine j7 ?_
  obtain⟨cn,aB,aC⟩:=ob az
  refine qw (fun (k:Int×(List Int)) E' w'=>∃cs34 s,E'=[(0,sv q0),(1,sv q1),(5,V3 (some ⟨b,0,none⟩) m13 m13),(6,V6 k.1)]∧SH w K [] w' s [s7 b cs34 3]∧M0 K s∧i7 k.1∧E1 true D6 s cs34 k.2∧m13=k.2.length) aB ⟨cs7,K,u,ay,kr,I5,hrow10,hm14⟩ ?_
  rintro k _ cp cq aD aE ⟨cs34,s,rfl,ab,ac,aF,hrow35,hm36⟩
  refine o4 (sr (mv u (mv u (lv (J9 underlying9 u) (lv (V2 u u) (nq (D5 aD u (fun aG I=>?_) (fun aG I=>?_))))))))
  ·refine j3 (qs (j7 (j5 (mv u (mv u (mv u ?_))))))
   obtain⟨aH,J,aI⟩:=ob I
   obtain⟨cr,aJ,aK⟩:=E1.at hrow35 J
   obtain⟨rfl,cs⟩:=aJ
   have ct: ∀(j:Nat) (d:Value),[V6 aH][j]? =some d→cs34[k.1.toNat*D6.size+j]? =some d:=aK
   refine lv (J7 (t:=D6) underlying46 E6 u u hm36 J) (a3b (t:=D6) (v:=V6 k.1) (e:=k.1) wn E6 u u ⟨u,aF⟩ ab hrow35 J fun cs50 cu hrow52 aL=>?_)
   have hm54:=hm36.trans (List.length_set (i:=k.1.toNat) (a:=k.1)).symm
   refine nb (l5 (j5 (mv u (lv (y7 u u) (av u (i8 ?_))))))
   cases oi aI
   exact qd ⟨_,u,cs50,s,u,aL,ac,(u0 _),hrow52,hm54⟩
  refine y4 (g8 (g8 ?_))
  cases oi I
  cases aE _ u
  refine l6 ?_
  cases oi aC
  exact qd ⟨cs34,s,u,ab,ac,hrow35,hm36⟩
 rintro _ cv ⟨cs22,o,rfl,aM,cw,hrow23,hm24⟩
 refine qs (sr (lv (N2 u) (nq ?_)))
 obtain⟨ad,aN,aO⟩:=ob aA
 refine l4 (fun E' w'=>∃cs63 B,E'=[(1,sv q1),(5,V3 (some ⟨b,0,none⟩) m13 m13)]∧SH w K [] w' B [s7 b cs63 3]∧M0 o B∧E1 true D6 B cs63 ad∧m13=ad.length) ?_ ?_
 ·refine j7 ?_
  obtain⟨cx,aP,aQ⟩:=ob aN
  refine qw (fun (f:Int×(List Int)) E' w'=>∃cs75 l,E'=[(0,sv q0),(1,sv q1),(5,V3 (some ⟨b,0,none⟩) m13 m13),(7,V6 f.1)]∧SH w K [] w' l [s7 b cs75 3]∧M0 o l∧i7 f.1∧E1 true D6 l cs75 f.2∧m13=f.2.length) aP ⟨cs22,o,u,aM,kr,I5,hrow23,hm24⟩ ?_
  rintro f _ cy cz aR aS ⟨cs75,l,rfl,O,ae,cA,hrow76,hm77⟩
  refine o4 (sr (mv u (mv u (lv (J9 underlying9 u) (lv (u7 u u) (nq (D5 aR u (fun aT R=>?_) (fun aT R=>?_))))))))
  ·refine j3 (qs (j7 (sr (mv u ?_))))
   obtain⟨aU,af,aV⟩:=ob R
   obtain⟨cB,aW,aX⟩:=E1.at hrow76 af
   obtain⟨rfl,aY⟩:=aW
   have aZ: ∀(j:Nat) (d:Value),[V6 aU][j]? =some d→cs75[(0:Int).toNat*D6.size+j]? =some d:=aX
   refine lv (J7 (t:=D6) underlying46 E6 u u hm77 af) (lv (a1B E6 u u (aZ 0 _ u) (O.hasObj (.head _))) (av u (nr (mv u (mv u (lv (y7 u u) ?_))))))
   obtain⟨ba,S,bb⟩:=ob aV
   obtain⟨cC,bc,bd⟩:=E1.at hrow76 S
   obtain⟨rfl,cD⟩:=bc
   have cE: ∀(j:Nat) (d:Value),[V6 ba][j]? =some d→cs75[(0:Int).toNat*D6.size+j]? =some d:=bd
   refine lv (J7 (t:=D6) underlying46 E6 u u hm77 S) (a3b (t:=D6) (v:=V6 (z8 (f.1+(1:Int)))) (e:=(z8 (f.1+(1:Int)))) wn E6 u u ⟨u,(u0 _)⟩ O hrow76 S fun cs99 cF hrow101 be=>?_)
   have hm103:=hm77.trans (List.length_set (i:=(0:Int).toNat) (a:=(z8 (f.1+(1:Int))))).symm
   refine nr (lv (N2 u) (nq ?_))
   obtain⟨ag,bf,bg⟩:=ob bb
   refine l4 (fun E' w'=>∃cs111 C,E'=[(0,sv q0),(1,sv q1),(5,V3 (some ⟨b,0,none⟩) m13 m13),(7,V6 f.1)]∧SH w K [] w' C [s7 b cs111 3]∧M0 l C∧E1 true D6 C cs111 ag∧m13=ag.length) ?_ ?_
   ·refine j7 ?_
    obtain⟨cG,bh,bi⟩:=ob bf
    refine qw (fun (c:Int×Int×(List Int)) E' w'=>∃cs124 D,E'=[(0,sv q0),(1,sv q1),(5,V3 (some ⟨b,0,none⟩) m13 m13),(7,V6 f.1),(8,V6 c.1),(9,V6 c.2.1)]∧SH w K [] w' D [s7 b cs124 3]∧M0 l D∧i7 c.1∧i7 c.2.1∧E1 true D6 D cs124 c.2.2∧m13=c.2.2.length) bh ⟨cs99,l,u,be,kr,aY,I5,hrow101,hm103⟩ ?_
    rintro c _ cH cI bj bk ⟨cs124,D,rfl,ah,ai,bl,cJ,hrow125,hm126⟩
    refine o4 (sr (mv u (mv u (lv (J9 underlying9 u) (lv (u7 u u) (nq (D5 bj u (fun bm T=>?_) (fun bm T=>?_))))))))
    ·refine j3 (qs (j7 (sr (mv u (av u (ns (o4 (D4 mixed (by kernel_rfl) ah (km u ?_)))))))))
     refine km u ?_
     obtain⟨cK,bn,bo⟩:=ob T
     refine kv (N9 underlying9 u u bn) (km u (km u ?_))
     obtain⟨cL,bp,bq⟩:=ob bo
     refine kv (N9 underlying9 u u bp) (kv (a8H u u) (B4 ?_))
     rintro cM ⟨U,aj,x⟩
     refine l5 ?_
     obtain⟨ak,br,bs⟩:=ob bq
     refine l4 (IW w K [] U [(0,sv q0),(1,sv q1),(5,V3 (some ⟨b,0,none⟩) m13 m13),(7,V6 f.1),(9,V6 c.2.1),(10,V6 ak)] [s7 b cs124 3] (i7 ak)) ?_ ?_
     ·refine D5 br u (fun bu V=>?_) (fun bu V=>?_)
      ·refine j5 (mv u (lv (y7 u u) (av u (i8 ?_))))
       cases oi V
       exact qd ⟨U,u,aj,kr,(u0 _)⟩
      refine j3 ?_
      cases oi V
      exact qd ⟨U,u,aj,kr,bl⟩
     rintro _ cN ⟨bv,rfl,al,y,bx⟩
     refine qr (mv u (mv u (lv (y7 u u) ?_)))
     obtain⟨bz,am,bA⟩:=ob bs
     obtain⟨cO,bB,bC⟩:=E1.at (E1.mono (x.trans y) hrow125) am
     obtain⟨rfl,bD⟩:=bB
     have bE: ∀(j:Nat) (d:Value),[V6 bz][j]? =some d→cs124[(z8 (c.2.1+(1:Int))).toNat*D6.size+j]? =some d:=bC
     refine lv (J7 (t:=D6) underlying46 E6 u u hm126 am) (lv (a1B E6 u u (bE 0 _ u) (al.hasObj (.head _))) (av u (nq ?_)))
     have G:=al.drew
     refine wh1 (fun w'=>H0 bv w') (fun w'=>B0 b cs124 w') 17 [(7,13),(7,16),(7,17),(12,13),(12,16),(12,17),(13,14),(13,15),(13,16),(13,17),(14,15),(14,16),(14,17),(15,16),(15,17),(16,17)] mixed (G.hasK kr) (fun _=>G.hasObj (.head _)) (gt (i5 u) (gt (i5 u) (gt (y7 u u) (gt (i5 u) (gt (i5 u) (gt (i5 u) ?_))))))
     obtain⟨bF,an,bG⟩:=ob bA
     obtain⟨cP,bH,bI⟩:=E1.at (E1.mono (x.trans y) hrow125) an
     obtain⟨rfl,bJ⟩:=bH
     have bK: ∀(j:Nat) (d:Value),[V6 bF][j]? =some d→cs124[c.2.1.toNat*D6.size+j]? =some d:=bI
     refine gt (J7 (t:=D6) underlying46 E6 u u hm126 an) (gf (fun _ h=>(a1B E6 u u (bK 0 _ u) h)) (gt (i5 u) (gt (i5 u) (gt (y7 u u) ?_))))
     obtain⟨bL,ao,bM⟩:=ob bG
     obtain⟨cQ,bN,bO⟩:=E1.at (E1.mono (x.trans y) hrow125) ao
     obtain⟨rfl,bP⟩:=bN
     have bQ: ∀(j:Nat) (d:Value),[V6 bL][j]? =some d→cs124[(z8 (c.2.1+(1:Int))).toNat*D6.size+j]? =some d:=bO
     refine gt (J7 (t:=D6) underlying46 E6 u u hm126 ao) (gf (fun _ h=>(a1B E6 u u (bQ 0 _ u) h)) (gn ?_))
     obtain⟨cR,bR,bS⟩:=ob bM
     refine lk c33 (a9E F G.enter0 bJ bP bR) ?_
     rintro cS cT ⟨cU,rfl,q,cV⟩
     have H:=(G.c0 q).t1
     refine i8 (qh (H.hasK q.le) (fun _=>H.hasObj (.head _)) (gt (y7 u u) (gn ?_)))
     obtain⟨W,bT,bU⟩:=ob bS
     refine lk c33 (a9E F H.enter0 bx (u0 _) bT) ?_
     rintro cW cX ⟨bV,rfl,A,bW⟩
     have X:=(H.c0 A).t1
     refine i8 (qh (X.hasK (q.le.trans A.le)) (fun _=>X.hasObj (.head _)) ?_)
     obtain⟨bX,Y,bY⟩:=ob bU
     obtain⟨cY,bZ,ca⟩:=E1.at (E1.mono (((x.trans y).trans q.le).trans A.le) hrow125) Y
     obtain⟨rfl,cZ⟩:=bZ
     have da: ∀(j:Nat) (d:Value),[V6 bX][j]? =some d→cs124[(z8 (c.2.1+(1:Int))).toNat*D6.size+j]? =some d:=ca
     refine gt (J7 (t:=D6) underlying46 E6 u u hm126 Y) (gn (a3b (t:=D6) (v:=V6 W) (e:=W) wn E6 u u ⟨u,bW⟩ X (E1.mono (((x.trans y).trans q.le).trans A.le) hrow125) Y fun cs204 db hrow206 ap=>?_))
     have hm208:=hm126.trans (List.length_set (i:=(z8 (c.2.1+(1:Int))).toNat) (a:=W)).symm
     refine i8 (qh (ap.hasK (q.le.trans A.le)) (fun h=>by cases h) (gd' (x8 (l5 (j5 (mv u (lv (y7 u u) (av u (i8 ?_)))))))))
     cases oi bY
     exact qd ⟨_,u,cs204,bV,u,ap,((((ai.trans x).trans y).trans q.le).trans A.le),bD,(u0 _),hrow206,hm208⟩
    refine y4 (g8 (g8 ?_))
    cases oi T
    cases bk _ u
    refine l6 ?_
    cases oi bi
    exact qd ⟨cs124,D,u,ah,ai,hrow125,hm126⟩
   rintro _ dc ⟨cs111,C,rfl,cb,cc,hrow112,hm113⟩
   refine x8 (l5 (j5 (mv u (lv (y7 u u) (av u (i8 ?_))))))
   cases oi bg
   exact qd ⟨_,u,cs111,C,u,cb,(ae.trans cc),(u0 _),hrow112,hm113⟩
  refine y4 (g8 (g8 ?_))
  cases oi R
  cases aS _ u
  refine l6 ?_
  cases oi aQ
  exact qd ⟨cs75,l,u,O,ae,hrow76,hm77⟩
 rintro _ dd ⟨cs63,B,rfl,aq,de,hrow64,hm65⟩
 refine qr (mv u (mv u (lv (J9 underlying9 u) ?_)))
 obtain⟨cd,ar,ce⟩:=ob aO
 obtain⟨df,cf,cg⟩:=E1.at hrow64 ar
 obtain⟨rfl,ch⟩:=cf
 have cj: ∀(j:Nat) (d:Value),[V6 cd][j]? =some d→cs63[(q1.length:Int).toNat*D6.size+j]? =some d:=cg
 refine lv (J7 (t:=D6) underlying46 E6 u u hm65 ar) (lv (a1B E6 u u (cj 0 _ u) (aq.hasObj (.head _))) (av u (nq (j9 ?_))))
 cases oi ce
 exact ey results177 ⟨B,u,aq.s,ch⟩

theorem b3V (F:Nat): ∀{w:World} {K:F9} {q0:r4} {q1:r4} {r:Bool} (hS:SH w K [] w K []) (k:q0.length≤maxLen) (l:q1.length≤maxLen) (hm:S8 F q0 q1=some r),
  Calls prog 178 #[sv q0,sv q1] w (R_b w K r):=by
 induction F with
 | zero=>intros;rename_i hm;rw [S8] at hm;cases hm
 | succ F ih=>
  intro w K q0 q1 r hS k l hm
  rw [S8] at hm
  refine ci func178 u ntmps178 (sr (lv (O6 u) (O7 (mv u (lv (J8 (r:=([]:r4)) u u) (nq (R9 u (fun q=>?_) (fun q=>?_))))))))
  ·have s:=a1a q hm
   refine sr (mv u (lv (J8 (r:=([]:r4)) u u) (av u (nq (rr ?_)))))
   cases oi s
   exact ey results178 ⟨K,u,hS⟩
  have s:=a09 q hm
  refine j3 (qs (sr (mv u ?_)))
  obtain⟨x5,U,V⟩:=ob s
  refine lv (N9 underlying9 u u U) (lv (a91 (b:=(42:UInt8)) u u) (nq (D5 V u (fun W x=>?_) (fun W x=>?_))))
  ·refine o4 ?_
   obtain⟨X,Y,aa⟩:=ob x
   refine l4 (IV w K [] K [(4,.bool X)] []) ?_ ?_
   ·refine j5 (mv u ?_)
    obtain⟨aO,G,ab⟩:=ob Y
    refine lv (a00 underlying9 u u G) (mv u ?_)
    obtain⟨aP,ac,ad⟩:=ob ab
    refine lk b6w (ih hS.enter0 (a1V k G) l ac) ?_
    rintro aQ aR ⟨H,rfl,m⟩
    have o:=(hS.c0 m).t0
    refine mv u (bt ad (fun c y=>?_) (fun c y=>?_))
    ·refine lu c (lu c (lu c (A8 (uu u u) u (A8 (uu u u) u (A8 (uu u u) u (A8 (uu u u) u (lu c (lv (J6 u c u) (av u ?_)))))))))
     refine i8 ?_
     cases oi y
     exact qd ⟨H,u,o,m.le⟩
    refine lg c (i5 u) (lg c (a2C (r:=([]:r4)) u u) (lg c (i5 u) (bt y (fun d A=>?_) (fun d A=>?_))))
    ·refine lg d (i5 u) (lg d (i5 u) ?_)
     obtain⟨ae,I,af⟩:=ob A
     refine lg d (a00 underlying9 u u I) ?_
     obtain⟨aS,ag,ah⟩:=ob af
     refine A3 (wg u u d) u (A2 (vs:=[sv q0,sv ae]) b6w u) (ih o.enter0 k (a1V l I) ag) ?_
     rintro aT aU ⟨ai,rfl,J⟩
     refine⟨_,u,?_⟩
     have aj:=(o.c0 J).t0
     refine lg c (n9 u d u) (lv (l9 u c u) (av u (i8 ?_)))
     cases oi ah
     exact qd ⟨ai,u,aj,(m.le.trans J.le)⟩
    refine lu d (lu d (lu d (lu d (lg c (L8 u d u) (lv (l9 u c u) (av u (i8 ?_)))))))
    cases oi A
    exact qd ⟨H,u,o,m.le⟩
   rintro _ aV ⟨ak,rfl,al,aW⟩
   refine l5 (rr ?_)
   cases oi aa
   exact ey results178 ⟨ak,u,al⟩
  refine j3 (qs (D4 mixed (by kernel_rfl) hS (km u (kv (a2C (r:=([]:r4)) u u) (km u (bt x (fun a B=>?_) (fun a B=>?_)))))))
  ·refine kg a (i5 u) ?_
   obtain⟨aX,am,an⟩:=ob B
   refine kg a (N9 underlying9 u u am) (kg a (a91 (b:=(63:UInt8)) u u) (kg a (i5 u) (bt an (fun f C=>?_) (fun f C=>?_))))
   ·iterate 5 refine kn f ?_
    refine kg a (J6 u f u) (kv (n9 u a u) (km u (kg u (i5 u) ?_)))
    obtain⟨aY,O,ao⟩:=ob C
    refine kg u (a00 underlying9 u u O) (kg u (i5 u) ?_)
    obtain⟨aZ,R,ap⟩:=ob ao
    refine kg u (a00 underlying9 u u R) ?_
    obtain⟨ba,aq,ar⟩:=ob ap
    refine kcg u b6w (fun _ _ au bb=>ih au.enter0 (a1V k O) (a1V l R) aq) (kv (n9 u u u) (kv (u9 u) (B4 ?_)))
    rintro bc ⟨aw,ax,bd⟩
    refine l5 (j9 ?_)
    cases oi ar
    exact ey results178 ⟨aw,u,ax⟩
   refine kg f (i5 u) ?_
   obtain⟨be,ay,az⟩:=ob C
   refine kg f (N9 underlying9 u u ay) (kg f (i5 u) ?_)
   obtain⟨bf,aA,aB⟩:=ob az
   refine kg f (N9 underlying9 u u aA) (kg f (a91 u u) (kg a (l9 u f u) (kv (n9 u a u) (km u (bt aB (fun i D=>?_) (fun i D=>?_))))))
   ·refine kg i (i5 u) ?_
    obtain⟨bg,S,aC⟩:=ob D
    refine kg i (a00 underlying9 u u S) (kg i (i5 u) ?_)
    obtain⟨bh,T,aD⟩:=ob aC
    refine kg i (a00 underlying9 u u T) ?_
    obtain⟨bi,aE,aF⟩:=ob aD
    refine kcg i b6w (fun _ _ aG bj=>ih aG.enter0 (a1V k S) (a1V l T) aE) (kv (n9 u i u) (kv (u9 u) (B4 ?_)))
    rintro bk ⟨aH,aI,bl⟩
    refine l5 (j9 ?_)
    cases oi aF
    exact ey results178 ⟨aH,u,aI⟩
   iterate 5 refine kn i ?_
   refine kv (L8 u i u) (kv (u9 u) (B4 ?_))
   rintro bm ⟨aJ,aK,bn⟩
   refine l5 (j9 ?_)
   cases oi D
   exact ey results178 ⟨aJ,u,aK⟩
  refine kn a (kn a (kn a (kn a ?_)))
  iterate 5 refine ku ?_
  refine kn a (kv (L8 u a u) (km u ?_))
  iterate 5 refine qv u u u u ?_
  refine kv (L8 u u u) (kv (u9 u) (B4 ?_))
  rintro bo ⟨aL,aM,bp⟩
  refine l5 (j9 ?_)
  cases oi B
  exact ey results178 ⟨aL,u,aM⟩

theorem b2F {q0:A5}{q1:q7}{q2:Int}{r:Bool}(hS:SH w K [] w K [])(am:b7 F6 K A a b q0.Docs)(aa:b7 B8 K B c d q0.Entries)(bi:i7 q1.Kind)(an:q1.Field.length≤maxLen)(ao:b7 D9 K C f i q1.Words)(bj:i7 q1.From)(bk:i7 q1.To)(bl:b7 F4 K D k l q1.Kids)(ap:i7 q2)(hm:a2K F q0 q1 q2=some r):
  Calls prog 134 #[.agg #[V3 A a b,V3 B c d],.agg #[V6 q1.Kind,sv q1.Field,V3 C f i,V6 q1.From,V6 q1.To,V3 D k l],V6 q2] w (R_b w K r):=by
 rw [a2K] at hm
 refine ci func134 u ntmps134 (sr (bx u hS fun I bm aq=>?_))
 have ar:SH _ _ _ _ _ [s7 I [V3 A a b,V3 B c d] 30]:=aq
 refine bx u ar fun H bn au=>?_
 have aw:SH _ _ _ _ _ [s7 H [V6 q1.Kind,sv q1.Field,V3 C f i,V6 q1.From,V6 q1.To,V3 D k l] 35,_]:=au
 refine lv (O6 u) (O7 (lv (N2 u) (nq ?_)))
 obtain⟨ax,ay,X⟩:=ob hm
 refine l4 (IE ax w K [] K [] []) ?_ ?_
 ·refine j7 ?_
  obtain⟨bo,az,af⟩:=ob ay
  refine qw (fun (Y:Int)=>IW w K [] K [(2,V6 q2),(3,pt I),(4,pt H),(7,V6 Y)] [s7 I [V3 A a b,V3 B c d] 30,s7 H [V6 q1.Kind,sv q1.Field,V3 C f i,V6 q1.From,V6 q1.To,V3 D k l] 35] (i7 Y)) az ⟨K,u,aw.f1,kr,I5⟩ ?_
  rintro Y _ bp bq aA ag ⟨U,rfl,V,J,br⟩
  refine o4 (sr (mv u (fl M2 u a1e m0 V u (lv (q9 underlying28 u (aa.mono J)) (lv (u7 u u) (nq (D5 aA u (fun aB ab=>?_) (fun aB ab=>?_))))))))
  ·refine j3 (qs (j7 (sr (fl M2 u a1e m0 V u (mv u ?_)))))
   obtain⟨G,aC,aD⟩:=ob ab
   refine li underlying28 P2 (aa.mono J) aC fun aE aF bs aG aH=>?_
   obtain⟨O,R,S,rfl,bu,ah,bv⟩:=aG
   have aI:F1 _ aE aF [sv G.Field,sv G.Term,V3 O R S]:=aH
   refine lv (F3 P2 u V aI u) (al P2 V fun W bz aJ=>?_)
   have aK:SH _ _ _ _ _ [s7 W [sv [],sv [],V3 none 0 0] 99,_,_]:=aJ
   refine lw [sv G.Field,sv G.Term,V3 O R S] P2 aK fun bA aL=>(ns ?_)
   obtain⟨aM,aN,aO⟩:=ob aD
   refine l4 (IV w K [] U [(2,V6 q2),(3,pt I),(4,pt H),(7,V6 Y),(45,.bool aM)] [s7 I [V3 A a b,V3 B c d] 30,s7 H [V6 q1.Kind,sv q1.Field,V3 C f i,V6 q1.From,V6 q1.To,V3 D k l] 35]) ?_ ?_
   ·refine b6e (fun w'=>H0 U w'∧B0 W [sv G.Field,sv G.Term,V3 O R S] w'∧B0 H [V6 q1.Kind,sv q1.Field,V3 C f i,V6 q1.From,V6 q1.To,V3 D k l] w'∧B0 I [V3 A a b,V3 B c d] w') (fun w'=>True) 25 [] mixed ?_
    have m:=aL.drew
    refine T8 (i:=0) (listed':=L_ 25 0) (fun _=>True) u (by kernel_rfl) (l3 (l3 (y8 (l3 (l3 (y8 (l3 (l3 F8)))))))) (by kernel_rfl) u (by kernel_rfl) (by kernel_rfl) u (.inl fun _ _=>trivial) ⟨⟨m.hasK kr,m.hasObj m0,m.hasObj m2,m.hasObj m1⟩,(fun _=>trivial),by decide⟩ wn u (fun _ _=>(c7 a3z u)) (T8 (i:=1) (listed':=L_ 25 1) (B0 W [sv G.Field,sv G.Term,V3 O R S]) u (by kernel_rfl) (l3 (l3 (y8 (l3 (l3 (y8 (l3 (l3 F8)))))))) (by kernel_rfl) u (by kernel_rfl) (by kernel_rfl) u (.inl fun _ h=>h.2.1) ⟨⟨m.hasK kr,m.hasObj m0,m.hasObj m2,m.hasObj m1⟩,(fun _=>trivial),by decide⟩ wn u (fun _ h=>B5 G7 u u h) ?_)
    refine T8 (i:=2) (listed':=L_ 25 2) (fun _=>True) u (by kernel_rfl) (l3 (l3 (y8 (l3 (l3 (y8 (l3 (l3 F8)))))))) (by kernel_rfl) u (by kernel_rfl) (by kernel_rfl) u (.inl fun _ _=>trivial) ⟨⟨m.hasK kr,m.hasObj m0,m.hasObj m2,m.hasObj m1⟩,(fun _=>trivial),by decide⟩ wn u (fun _ _=>(c7 Z3 u)) (T8 (i:=3) (listed':=L_ 25 3) (B0 H [V6 q1.Kind,sv q1.Field,V3 C f i,V6 q1.From,V6 q1.To,V3 D k l]) u (by kernel_rfl) (l3 (l3 (y8 (l3 (l3 (y8 (l3 (l3 F8)))))))) (by kernel_rfl) u (by kernel_rfl) (by kernel_rfl) u (.inl fun _ h=>h.2.2.1) ⟨⟨m.hasK kr,m.hasObj m0,m.hasObj m2,m.hasObj m1⟩,(fun _=>trivial),by decide⟩ wn u (fun _ h=>B5 G7 u u h) ?_)
    refine T8 (i:=4) (listed':=L_ 25 4) (fun _=>True) u (by kernel_rfl) (l3 (l3 (y8 (l3 (l3 (y8 (l3 (l3 F8)))))))) (by kernel_rfl) u (by kernel_rfl) (by kernel_rfl) u (.inl fun _ _=>trivial) ⟨⟨m.hasK kr,m.hasObj m0,m.hasObj m2,m.hasObj m1⟩,(fun _=>trivial),by decide⟩ wn u (fun _ _=>(J8 u u)) (T8 (i:=5) (listed':=L_ 25 5) (fun _=>True) u (by kernel_rfl) (l3 (l3 (y8 (l3 (l3 (y8 (l3 (l3 F8)))))))) (by kernel_rfl) u (by kernel_rfl) (by kernel_rfl) u (.inl fun _ _=>trivial) ⟨⟨m.hasK kr,m.hasObj m0,m.hasObj m2,m.hasObj m1⟩,(fun _=>trivial),by decide⟩ wn u (fun _ _=>(i5 u)) (bt aN (fun x ac=>?_) (fun x ac=>?_)))
    ·refine T8 (i:=6) (listed':=L_ 25 6) (fun _=>True) u (by kernel_rfl) (l3 (l3 (y8 (l3 (l3 (y8 (l3 (l3 F8)))))))) (by kernel_rfl) u (by kernel_rfl) (by kernel_rfl) u (.inl fun _ _=>trivial) ⟨⟨m.hasK kr,m.hasObj m0,m.hasObj m2,m.hasObj m1⟩,(fun _=>trivial),by decide⟩ (wg u u x) u (fun _ _=>(c7 a0B u)) (T8 (i:=7) (listed':=L_ 25 7) (B0 H [V6 q1.Kind,sv q1.Field,V3 C f i,V6 q1.From,V6 q1.To,V3 D k l]) u (by kernel_rfl) (l3 (l3 (y8 (l3 (l3 (y8 (l3 (l3 F8)))))))) (by kernel_rfl) u (by kernel_rfl) (by kernel_rfl) u (.inl fun _ h=>h.2.2.1) ⟨⟨m.hasK kr,m.hasObj m0,m.hasObj m2,m.hasObj m1⟩,(fun _=>trivial),by decide⟩ (wg u u x) u (fun _ h=>B5 W1 u u h) ?_)
     obtain⟨ai,aP,aQ⟩:=ob ac
     refine b6g (t:=D9) (j:=8) (listed':=L_ 25 8) u (by kernel_rfl) (l3 (l3 (y8 (l3 (l3 (y8 (l3 (l3 F8)))))))) (by kernel_rfl) u (by kernel_rfl) (by kernel_rfl) u ⟨⟨m.hasK kr,m.hasObj m0,m.hasObj m2,m.hasObj m1⟩,(fun _=>trivial),by decide⟩ (wg u u x) u underlying23 G7 u u (ao.mono J) aP fun aR aS bB aT aU=>?_
     obtain⟨rfl,aV⟩:=aT
     have aW:F1 _ aR aS [sv ai]:=aU
     refine T8 (i:=9) (listed':=L_ 25 9) (H0 U) u (by kernel_rfl) (l3 (l3 (y8 (l3 (l3 (y8 (l3 (l3 F8)))))))) (by kernel_rfl) u (by kernel_rfl) (by kernel_rfl) u (.inl fun _ h=>h.1) ⟨⟨m.hasK kr,m.hasObj m0,m.hasObj m2,m.hasObj m1⟩,(fun _=>trivial),by decide⟩ (wg u u x) u (fun _ h=>a0Y G7 u (aW 0 _ u) h) (T8 (i:=10) (listed':=L_ 25 10) (fun _=>True) u (by kernel_rfl) (l3 (l3 (y8 (l3 (l3 (y8 (l3 (l3 F8)))))))) (by kernel_rfl) u (by kernel_rfl) (by kernel_rfl) u (.inl fun _ _=>trivial) ⟨⟨m.hasK kr,m.hasObj m0,m.hasObj m2,m.hasObj m1⟩,(fun _=>trivial),by decide⟩ (wg u u x) u (fun _ _=>(c7 a21 u)) ?_)
     refine T8 (i:=11) (listed':=L_ 25 11) (B0 W [sv G.Field,sv G.Term,V3 O R S]) u (by kernel_rfl) (l3 (l3 (y8 (l3 (l3 (y8 (l3 (l3 F8)))))))) (by kernel_rfl) u (by kernel_rfl) (by kernel_rfl) u (.inl fun _ h=>h.2.1) ⟨⟨m.hasK kr,m.hasObj m0,m.hasObj m2,m.hasObj m1⟩,(fun _=>trivial),by decide⟩ (wg u u x) u (fun _ h=>B5 G7 u u h) (a94 (i:=12) (by kernel_rfl) u ?_)
     obtain⟨bC,aX,aY⟩:=ob aQ
     refine A3 (wg u u x) u (A2 (vs:=[sv ai,sv G.Term]) b6w u) (b3V F m.enter0 aV ah aX) ?_
     rintro bD bE ⟨aZ,rfl,q⟩
     refine⟨_,u,?_⟩
     have o:=(m.c0 q).t3
     refine i8 (b0T (listed':=L_ 25 12) u ⟨⟨o.hasK q.le,o.hasObj m0,o.hasObj m2,o.hasObj m1⟩,(fun _=>trivial),by decide⟩ (T8 (i:=13) (listed':=L_ 25 13) (fun _=>True) u (by kernel_rfl) (l3 (l3 (y8 (l3 (l3 (y8 (l3 (l3 F8)))))))) (by kernel_rfl) u (by kernel_rfl) (by kernel_rfl) u (.inl fun _ _=>trivial) ⟨⟨o.hasK q.le,o.hasObj m0,o.hasObj m2,o.hasObj m1⟩,(fun _=>trivial),by decide⟩ wn u (fun _ _=>(n9 u x u)) ?_))
     refine T8 (i:=14) (listed':=L_ 25 14) (fun _=>True) u (by kernel_rfl) (l3 (l3 (y8 (l3 (l3 (y8 (l3 (l3 F8)))))))) (by kernel_rfl) u (by kernel_rfl) (by kernel_rfl) u (.inl fun _ _=>trivial) ⟨⟨o.hasK q.le,o.hasObj m0,o.hasObj m2,o.hasObj m1⟩,(fun _=>trivial),by decide⟩ wn u (fun _ _=>(i5 u)) (bt aY (fun s ad=>?_) (fun s ad=>?_))
     ·refine T8 (i:=15) (listed':=L_ 25 15) (B0 I [V3 A a b,V3 B c d]) u (by kernel_rfl) (l3 (l3 (y8 (l3 (l3 (y8 (l3 (l3 F8)))))))) (by kernel_rfl) u (by kernel_rfl) (by kernel_rfl) u (.inl fun _ h=>h.2.2.2) ⟨⟨o.hasK q.le,o.hasObj m0,o.hasObj m2,o.hasObj m1⟩,(fun _=>trivial),by decide⟩ (wg u u s) u (fun _ h=>A0 (ds:=[V3 A a b,V3 B c d]) C4 u u u h) (T8 (i:=16) (listed':=L_ 25 16) (fun _=>True) u (by kernel_rfl) (l3 (l3 (y8 (l3 (l3 (y8 (l3 (l3 F8)))))))) (by kernel_rfl) u (by kernel_rfl) (by kernel_rfl) u (.inl fun _ _=>trivial) ⟨⟨o.hasK q.le,o.hasObj m0,o.hasObj m2,o.hasObj m1⟩,(fun _=>trivial),by decide⟩ (wg u u s) u (fun _ _=>(c7 Z3 u)) ?_)
      refine T8 (i:=17) (listed':=L_ 25 17) (B0 H [V6 q1.Kind,sv q1.Field,V3 C f i,V6 q1.From,V6 q1.To,V3 D k l]) u (by kernel_rfl) (l3 (l3 (y8 (l3 (l3 (y8 (l3 (l3 F8)))))))) (by kernel_rfl) u (by kernel_rfl) (by kernel_rfl) u (.inl fun _ h=>h.2.2.1) ⟨⟨o.hasK q.le,o.hasObj m0,o.hasObj m2,o.hasObj m1⟩,(fun _=>trivial),by decide⟩ (wg u u s) u (fun _ h=>B5 G7 u u h) (T8 (i:=18) (listed':=L_ 25 18) (fun _=>True) u (by kernel_rfl) (l3 (l3 (y8 (l3 (l3 (y8 (l3 (l3 F8)))))))) (by kernel_rfl) u (by kernel_rfl) (by kernel_rfl) u (.inl fun _ _=>trivial) ⟨⟨o.hasK q.le,o.hasObj m0,o.hasObj m2,o.hasObj m1⟩,(fun _=>trivial),by decide⟩ (wg u u s) u (fun _ _=>(c7 a21 u)) ?_)
      refine T8 (i:=19) (listed':=L_ 25 19) (B0 W [sv G.Field,sv G.Term,V3 O R S]) u (by kernel_rfl) (l3 (l3 (y8 (l3 (l3 (y8 (l3 (l3 F8)))))))) (by kernel_rfl) u (by kernel_rfl) (by kernel_rfl) u (.inl fun _ h=>h.2.1) ⟨⟨o.hasK q.le,o.hasObj m0,o.hasObj m2,o.hasObj m1⟩,(fun _=>trivial),by decide⟩ (wg u u s) u (fun _ h=>B5 G7 u u h) (T8 (i:=20) (listed':=L_ 25 20) (fun _=>True) u (by kernel_rfl) (l3 (l3 (y8 (l3 (l3 (y8 (l3 (l3 F8)))))))) (by kernel_rfl) u (by kernel_rfl) (by kernel_rfl) u (.inl fun _ _=>trivial) ⟨⟨o.hasK q.le,o.hasObj m0,o.hasObj m2,o.hasObj m1⟩,(fun _=>trivial),by decide⟩ (wg u u s) u (fun _ _=>(i5 u)) (a94 (i:=21) (by kernel_rfl) u ?_))
      obtain⟨bF,ba,bb⟩:=ob ad
      refine A3 (wg u u s) u (A2 (vs:=[.agg #[V3 A a b,V3 B c d],sv q1.Field,sv G.Term,V6 q2]) c1C u) (a6F F o.enter0 (am.mono (J.trans q.le)) (aa.mono (J.trans q.le)) an ah ap ba) ?_
      rintro bG bH ⟨bI,bJ,bK,bc,rfl,T,bd⟩
      refine⟨_,u,?_⟩
      have y:=(o.c0 T).t3
      refine i8 (b0T (listed':=L_ 25 21) u ⟨⟨y.hasK (q.le.trans T.le),y.hasObj m0,y.hasObj m2,y.hasObj m1⟩,(fun _=>trivial),by decide⟩ (T8 (i:=22) (listed':=L_ 25 22) (fun _=>True) u (by kernel_rfl) (l3 (l3 (y8 (l3 (l3 (y8 (l3 (l3 F8)))))))) (by kernel_rfl) u (by kernel_rfl) (by kernel_rfl) u (.inl fun _ _=>trivial) ⟨⟨y.hasK (q.le.trans T.le),y.hasObj m0,y.hasObj m2,y.hasObj m1⟩,(fun _=>trivial),by decide⟩ (wg u u s) u (fun _ _=>(q9 underlying46 u bd)) ?_))
      refine T8 (i:=23) (listed':=L_ 25 23) (fun _=>True) u (by kernel_rfl) (l3 (l3 (y8 (l3 (l3 (y8 (l3 (l3 F8)))))))) (by kernel_rfl) u (by kernel_rfl) (by kernel_rfl) u (.inl fun _ _=>trivial) ⟨⟨y.hasK (q.le.trans T.le),y.hasObj m0,y.hasObj m2,y.hasObj m1⟩,(fun _=>trivial),by decide⟩ (wg u u s) u (fun _ _=>(E7 u u)) (T8 (i:=24) (listed':=L_ 25 24) (fun _=>True) u (by kernel_rfl) (l3 (l3 (y8 (l3 (l3 (y8 (l3 (l3 F8)))))))) (by kernel_rfl) u (by kernel_rfl) (by kernel_rfl) u (.inl fun _ _=>trivial) ⟨⟨y.hasK (q.le.trans T.le),y.hasObj m0,y.hasObj m2,y.hasObj m1⟩,(fun _=>trivial),by decide⟩ wn u (fun _ _=>(n9 u s u)) (b07 (by kernel_rfl) ?_))
      cases oi bb
      exact qd ⟨bc,u,y.s,(q.le.trans T.le)⟩
     refine a3a (i:=15) (listed':=L_ 25 15) u (by kernel_rfl) (l3 (l3 (y8 (l3 (l3 (y8 (l3 (l3 F8)))))))) (by kernel_rfl) u (by kernel_rfl) (by kernel_rfl) u ⟨⟨o.hasK q.le,o.hasObj m0,o.hasObj m2,o.hasObj m1⟩,(fun _=>trivial),by decide⟩ (ug u u s) u (a3a (i:=16) (listed':=L_ 25 16) u (by kernel_rfl) (l3 (l3 (y8 (l3 (l3 (y8 (l3 (l3 F8)))))))) (by kernel_rfl) u (by kernel_rfl) (by kernel_rfl) u ⟨⟨o.hasK q.le,o.hasObj m0,o.hasObj m2,o.hasObj m1⟩,(fun _=>trivial),by decide⟩ (ug u u s) u ?_)
     refine a3a (i:=17) (listed':=L_ 25 17) u (by kernel_rfl) (l3 (l3 (y8 (l3 (l3 (y8 (l3 (l3 F8)))))))) (by kernel_rfl) u (by kernel_rfl) (by kernel_rfl) u ⟨⟨o.hasK q.le,o.hasObj m0,o.hasObj m2,o.hasObj m1⟩,(fun _=>trivial),by decide⟩ (ug u u s) u (a3a (i:=18) (listed':=L_ 25 18) u (by kernel_rfl) (l3 (l3 (y8 (l3 (l3 (y8 (l3 (l3 F8)))))))) (by kernel_rfl) u (by kernel_rfl) (by kernel_rfl) u ⟨⟨o.hasK q.le,o.hasObj m0,o.hasObj m2,o.hasObj m1⟩,(fun _=>trivial),by decide⟩ (ug u u s) u ?_)
     refine a3a (i:=19) (listed':=L_ 25 19) u (by kernel_rfl) (l3 (l3 (y8 (l3 (l3 (y8 (l3 (l3 F8)))))))) (by kernel_rfl) u (by kernel_rfl) (by kernel_rfl) u ⟨⟨o.hasK q.le,o.hasObj m0,o.hasObj m2,o.hasObj m1⟩,(fun _=>trivial),by decide⟩ (ug u u s) u (a3a (i:=20) (listed':=L_ 25 20) u (by kernel_rfl) (l3 (l3 (y8 (l3 (l3 (y8 (l3 (l3 F8)))))))) (by kernel_rfl) u (by kernel_rfl) (by kernel_rfl) u ⟨⟨o.hasK q.le,o.hasObj m0,o.hasObj m2,o.hasObj m1⟩,(fun _=>trivial),by decide⟩ (ug u u s) u (a94 (i:=21) (by kernel_rfl) u (lu s (i8 (b0T (listed':=L_ 25 21) u ⟨⟨o.hasK q.le,o.hasObj m0,o.hasObj m2,o.hasObj m1⟩,(fun _=>trivial),by decide⟩ ?_)))))
     refine a3a (i:=22) (listed':=L_ 25 22) u (by kernel_rfl) (l3 (l3 (y8 (l3 (l3 (y8 (l3 (l3 F8)))))))) (by kernel_rfl) u (by kernel_rfl) (by kernel_rfl) u ⟨⟨o.hasK q.le,o.hasObj m0,o.hasObj m2,o.hasObj m1⟩,(fun _=>trivial),by decide⟩ (ug u u s) u (a3a (i:=23) (listed':=L_ 25 23) u (by kernel_rfl) (l3 (l3 (y8 (l3 (l3 (y8 (l3 (l3 F8)))))))) (by kernel_rfl) u (by kernel_rfl) (by kernel_rfl) u ⟨⟨o.hasK q.le,o.hasObj m0,o.hasObj m2,o.hasObj m1⟩,(fun _=>trivial),by decide⟩ (ug u u s) u ?_)
     refine T8 (i:=24) (listed':=L_ 25 24) (fun _=>True) u (by kernel_rfl) (l3 (l3 (y8 (l3 (l3 (y8 (l3 (l3 F8)))))))) (by kernel_rfl) u (by kernel_rfl) (by kernel_rfl) u (.inl fun _ _=>trivial) ⟨⟨o.hasK q.le,o.hasObj m0,o.hasObj m2,o.hasObj m1⟩,(fun _=>trivial),by decide⟩ wn u (fun _ _=>(L8 u s u)) (b07 (by kernel_rfl) ?_)
     cases oi ad
     exact qd ⟨aZ,u,o.s,q.le⟩
    refine a3a (i:=6) (listed':=L_ 25 6) u (by kernel_rfl) (l3 (l3 (y8 (l3 (l3 (y8 (l3 (l3 F8)))))))) (by kernel_rfl) u (by kernel_rfl) (by kernel_rfl) u ⟨⟨m.hasK kr,m.hasObj m0,m.hasObj m2,m.hasObj m1⟩,(fun _=>trivial),by decide⟩ (ug u u x) u (a3a (i:=7) (listed':=L_ 25 7) u (by kernel_rfl) (l3 (l3 (y8 (l3 (l3 (y8 (l3 (l3 F8)))))))) (by kernel_rfl) u (by kernel_rfl) (by kernel_rfl) u ⟨⟨m.hasK kr,m.hasObj m0,m.hasObj m2,m.hasObj m1⟩,(fun _=>trivial),by decide⟩ (ug u u x) u ?_)
    refine a3a (i:=8) (listed':=L_ 25 8) u (by kernel_rfl) (l3 (l3 (y8 (l3 (l3 (y8 (l3 (l3 F8)))))))) (by kernel_rfl) u (by kernel_rfl) (by kernel_rfl) u ⟨⟨m.hasK kr,m.hasObj m0,m.hasObj m2,m.hasObj m1⟩,(fun _=>trivial),by decide⟩ (ug u u x) u (a3a (i:=9) (listed':=L_ 25 9) u (by kernel_rfl) (l3 (l3 (y8 (l3 (l3 (y8 (l3 (l3 F8)))))))) (by kernel_rfl) u (by kernel_rfl) (by kernel_rfl) u ⟨⟨m.hasK kr,m.hasObj m0,m.hasObj m2,m.hasObj m1⟩,(fun _=>trivial),by decide⟩ (ug u u x) u ?_)
    refine a3a (i:=10) (listed':=L_ 25 10) u (by kernel_rfl) (l3 (l3 (y8 (l3 (l3 (y8 (l3 (l3 F8)))))))) (by kernel_rfl) u (by kernel_rfl) (by kernel_rfl) u ⟨⟨m.hasK kr,m.hasObj m0,m.hasObj m2,m.hasObj m1⟩,(fun _=>trivial),by decide⟩ (ug u u x) u (a3a (i:=11) (listed':=L_ 25 11) u (by kernel_rfl) (l3 (l3 (y8 (l3 (l3 (y8 (l3 (l3 F8)))))))) (by kernel_rfl) u (by kernel_rfl) (by kernel_rfl) u ⟨⟨m.hasK kr,m.hasObj m0,m.hasObj m2,m.hasObj m1⟩,(fun _=>trivial),by decide⟩ (ug u u x) u (a94 (i:=12) (by kernel_rfl) u (lu x (i8 (b0T (listed':=L_ 25 12) u ⟨⟨m.hasK kr,m.hasObj m0,m.hasObj m2,m.hasObj m1⟩,(fun _=>trivial),by decide⟩ ?_)))))
    refine T8 (i:=13) (listed':=L_ 25 13) (fun _=>True) u (by kernel_rfl) (l3 (l3 (y8 (l3 (l3 (y8 (l3 (l3 F8)))))))) (by kernel_rfl) u (by kernel_rfl) (by kernel_rfl) u (.inl fun _ _=>trivial) ⟨⟨m.hasK kr,m.hasObj m0,m.hasObj m2,m.hasObj m1⟩,(fun _=>trivial),by decide⟩ wn u (fun _ _=>(L8 u x u)) (T8 (i:=14) (listed':=L_ 25 14) (fun _=>True) u (by kernel_rfl) (l3 (l3 (y8 (l3 (l3 (y8 (l3 (l3 F8)))))))) (by kernel_rfl) u (by kernel_rfl) (by kernel_rfl) u (.inl fun _ _=>trivial) ⟨⟨m.hasK kr,m.hasObj m0,m.hasObj m2,m.hasObj m1⟩,(fun _=>trivial),by decide⟩ wn u (fun _ _=>(i5 u)) ?_)
    refine a3a (i:=15) (listed':=L_ 25 15) u (by kernel_rfl) (l3 (l3 (y8 (l3 (l3 (y8 (l3 (l3 F8)))))))) (by kernel_rfl) u (by kernel_rfl) (by kernel_rfl) u ⟨⟨m.hasK kr,m.hasObj m0,m.hasObj m2,m.hasObj m1⟩,(fun _=>trivial),by decide⟩ (ug u u u) u (a3a (i:=16) (listed':=L_ 25 16) u (by kernel_rfl) (l3 (l3 (y8 (l3 (l3 (y8 (l3 (l3 F8)))))))) (by kernel_rfl) u (by kernel_rfl) (by kernel_rfl) u ⟨⟨m.hasK kr,m.hasObj m0,m.hasObj m2,m.hasObj m1⟩,(fun _=>trivial),by decide⟩ (ug u u u) u ?_)
    refine a3a (i:=17) (listed':=L_ 25 17) u (by kernel_rfl) (l3 (l3 (y8 (l3 (l3 (y8 (l3 (l3 F8)))))))) (by kernel_rfl) u (by kernel_rfl) (by kernel_rfl) u ⟨⟨m.hasK kr,m.hasObj m0,m.hasObj m2,m.hasObj m1⟩,(fun _=>trivial),by decide⟩ (ug u u u) u (a3a (i:=18) (listed':=L_ 25 18) u (by kernel_rfl) (l3 (l3 (y8 (l3 (l3 (y8 (l3 (l3 F8)))))))) (by kernel_rfl) u (by kernel_rfl) (by kernel_rfl) u ⟨⟨m.hasK kr,m.hasObj m0,m.hasObj m2,m.hasObj m1⟩,(fun _=>trivial),by decide⟩ (ug u u u) u ?_)
    refine a3a (i:=19) (listed':=L_ 25 19) u (by kernel_rfl) (l3 (l3 (y8 (l3 (l3 (y8 (l3 (l3 F8)))))))) (by kernel_rfl) u (by kernel_rfl) (by kernel_rfl) u ⟨⟨m.hasK kr,m.hasObj m0,m.hasObj m2,m.hasObj m1⟩,(fun _=>trivial),by decide⟩ (ug u u u) u (a3a (i:=20) (listed':=L_ 25 20) u (by kernel_rfl) (l3 (l3 (y8 (l3 (l3 (y8 (l3 (l3 F8)))))))) (by kernel_rfl) u (by kernel_rfl) (by kernel_rfl) u ⟨⟨m.hasK kr,m.hasObj m0,m.hasObj m2,m.hasObj m1⟩,(fun _=>trivial),by decide⟩ (ug u u u) u (a94 (i:=21) (by kernel_rfl) u (lu u (i8 (b0T (listed':=L_ 25 21) u ⟨⟨m.hasK kr,m.hasObj m0,m.hasObj m2,m.hasObj m1⟩,(fun _=>trivial),by decide⟩ ?_)))))
    refine a3a (i:=22) (listed':=L_ 25 22) u (by kernel_rfl) (l3 (l3 (y8 (l3 (l3 (y8 (l3 (l3 F8)))))))) (by kernel_rfl) u (by kernel_rfl) (by kernel_rfl) u ⟨⟨m.hasK kr,m.hasObj m0,m.hasObj m2,m.hasObj m1⟩,(fun _=>trivial),by decide⟩ (ug u u u) u (a3a (i:=23) (listed':=L_ 25 23) u (by kernel_rfl) (l3 (l3 (y8 (l3 (l3 (y8 (l3 (l3 F8)))))))) (by kernel_rfl) u (by kernel_rfl) (by kernel_rfl) u ⟨⟨m.hasK kr,m.hasObj m0,m.hasObj m2,m.hasObj m1⟩,(fun _=>trivial),by decide⟩ (ug u u u) u ?_)
    refine T8 (i:=24) (listed':=L_ 25 24) (fun _=>True) u (by kernel_rfl) (l3 (l3 (y8 (l3 (l3 (y8 (l3 (l3 F8)))))))) (by kernel_rfl) u (by kernel_rfl) (by kernel_rfl) u (.inl fun _ _=>trivial) ⟨⟨m.hasK kr,m.hasObj m0,m.hasObj m2,m.hasObj m1⟩,(fun _=>trivial),by decide⟩ wn u (fun _ _=>(L8 u u u)) (b07 (by kernel_rfl) ?_)
    cases oi ac
    exact qd ⟨U,u,m.s,kr⟩
   rintro _ bL ⟨aj,rfl,ak,be⟩
   refine l5 (D5 aO u (fun bf ae=>?_) (fun bf ae=>?_))
   ·refine sr (lv (r_t u) (nq (j9 (i9 (c9 (c9 ?_))))))
    cases oi ae
    cases ag _ u
    refine i9 (c9 ?_)
    cases oi af
    refine c9 ?_
    cases oi X
    exact ey results134 ⟨aj,u,ak.s⟩
   refine j3 (x8 (l5 (j5 (mv u (lv (y7 u u) (av u (i8 ?_)))))))
   cases oi ae
   exact qd ⟨_,u,aj,u,ak,(J.trans be),(u0 _)⟩
  refine y4 (g8 (g8 ?_))
  cases oi ab
  cases ag _ u
  refine l6 ?_
  cases oi af
  exact L6 ⟨_,U,u,u,V.s,J⟩ trivial
 rintro _ bM ⟨bN,bg,rfl,rfl,bh,bO⟩
 have X:=E9 X
 refine qr (lv (O6 u) (nq (j9 ?_)))
 cases oi X
 exact ey results134 ⟨bg,u,bh⟩

theorem b0L {q0:List Int}{q1:Int}{r:Bool}(hS:SH w K [] w K [])(o:b7 D6 K A a b q0)(X:i7 q1)(hm:a1H F q0 q1=some r):
  Calls prog 32 #[V3 A a b,V6 q1] w (R_b w K r):=by
 rw [a1H] at hm
 refine ci func32 u ntmps32 (sr (lv (O6 u) (O7 (lv (N2 u) (nq ?_)))))
 obtain⟨x,y,c⟩:=ob hm
 refine l4 (IE x w K [] K [] []) ?_ ?_
 ·refine j7 ?_
  obtain⟨Y,B,q⟩:=ob y
  refine qw (fun (i:Int)=>IW w K [] K [(0,V3 A a b),(1,V6 q1),(5,V6 i)] [] (i7 i)) B ⟨K,u,hS,kr,I5⟩ ?_
  rintro i _ aa ab C s ⟨k,rfl,d,f,ac⟩
  refine o4 (sr (mv u (mv u (lv (q9 underlying46 u (o.mono f)) (lv (u7 u u) (nq (D5 C u (fun D l=>?_) (fun D l=>?_))))))))
  ·refine j3 (qs (j7 (sr (mv u (mv u ?_)))))
   obtain⟨G,H,I⟩:=ob l
   refine li underlying46 E6 (o.mono f) H fun J O ad R S=>?_
   obtain⟨rfl,ae⟩:=R
   have T:F1 _ J O [V6 G]:=S
   refine lv (y9 E6 u d (T 0 _ u)) (mv u (lv (A9 u u) (nq (D5 I u (fun U m=>?_) (fun U m=>?_)))))
   ·refine sr (lv (r_t u) (nq (j9 (i9 (c9 (c9 ?_))))))
    cases oi m
    cases s _ u
    refine i9 (c9 ?_)
    cases oi q
    refine c9 ?_
    cases oi c
    exact ey results32 ⟨k,u,d⟩
   refine j3 (x8 (l5 (j5 (mv u (lv (y7 u u) (av u (i8 ?_)))))))
   cases oi m
   exact qd ⟨_,u,k,u,d,f,(u0 _)⟩
  refine y4 (g8 (g8 ?_))
  cases oi l
  cases s _ u
  refine l6 ?_
  cases oi q
  exact L6 ⟨_,k,u,u,d,f⟩ trivial
 rintro _ af ⟨s9,V,rfl,rfl,W,ah⟩
 have c:=E9 c
 refine qr (lv (O6 u) (nq (j9 ?_)))
 cases oi c
 exact ey results32 ⟨V,u,W⟩

theorem a26 {q0:List Int}{q1:List Int}{r:Bool}(hS:SH w K [] w K [])(k:b7 D6 K A a b q0)(x:b7 D6 K B c d q1)(hm:V5 F q0 q1=some r):
  Calls prog 35 #[V3 A a b,V3 B c d] w (R_b w K r):=by
 rw [V5] at hm
 refine ci func35 u ntmps35 (sr (lv (O6 u) (O7 (mv u (lv (q9 underlying46 u k) (mv u (lv (q9 underlying46 u x) (lv (R2 u u) (nq ?_)))))))))
 refine R9 u (fun l=>?_) (fun l=>?_)
 ·have m:=a1a l hm
  refine sr (lv (O6 u) (nq (rr ?_)))
  cases oi m
  exact ey results35 ⟨K,u,hS⟩
 have m:=a09 l hm
 refine j3 (qs (sr (lv (N2 u) (nq ?_))))
 obtain⟨I,J,i⟩:=ob m
 refine l4 (IE I w K [] K [] []) ?_ ?_
 ·refine j7 ?_
  obtain⟨ap,O,y⟩:=ob J
  refine qw (fun (o:Int)=>IW w K [] K [(0,V3 A a b),(1,V3 B c d),(5,V6 o)] [] (i7 o)) O ⟨K,u,hS,kr,I5⟩ ?_
  rintro o _ aq ar R C ⟨S,rfl,D,f,au⟩
  refine o4 (sr (mv u (mv u (lv (q9 underlying46 u (k.mono f)) (lv (u7 u u) (nq (D5 R u (fun T q=>?_) (fun T q=>?_))))))))
  ·refine j3 (qs (j7 (o4 (D4 mixed (by kernel_rfl) D (km u (km u ?_))))))
   obtain⟨U,V,W⟩:=ob q
   refine ki underlying46 E6 (k.mono f) V fun X Y aw aa ab=>?_
   obtain⟨rfl,ax⟩:=aa
   have ac:F1 _ X Y [V6 U]:=ab
   refine kh (C1 E6 u (ac 0 _ u)) (km u (km u ?_))
   obtain⟨ad,ae,af⟩:=ob W
   refine ki underlying46 E6 (x.mono f) ae fun ag ah ay ai aj=>?_
   obtain⟨rfl,az⟩:=ai
   have ak:F1 _ ag ah [V6 ad]:=aj
   refine kh (C1 E6 u (ak 0 _ u)) (kv (R2 u u) (B4 ?_))
   rintro aA ⟨G,H,al⟩
   refine l5 (D5 af u (fun am s=>?_) (fun am s=>?_))
   ·refine sr (lv (O6 u) (nq (j9 (i9 (c9 (c9 ?_))))))
    cases oi s
    cases C _ u
    refine i9 (c9 ?_)
    cases oi y
    refine c9 ?_
    cases oi i
    exact ey results35 ⟨G,u,H⟩
   refine j3 (x8 (l5 (j5 (mv u (lv (y7 u u) (av u (i8 ?_)))))))
   cases oi s
   exact qd ⟨_,u,G,u,H,(f.trans al),(u0 _)⟩
  refine y4 (g8 (g8 ?_))
  cases oi q
  cases C _ u
  refine l6 ?_
  cases oi y
  exact L6 ⟨_,S,u,u,D,f⟩ trivial
 rintro _ aB ⟨aC,an,rfl,rfl,ao,aD⟩
 have i:=E9 i
 refine qr (lv (r_t u) (nq (j9 ?_)))
 cases oi i
 exact ey results35 ⟨an,u,ao⟩
end Go.Proofs.YtnloenhmkdpgeaaGreatDoor
