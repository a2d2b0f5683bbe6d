/-
 Walks of the functions. Printed by gen.py.
-/
import Derived.Test.YtpdfkjjmcnhakaaGreatDoorFacts
set_option linter.unusedVariables false
set_option linter.unusedSectionVars false
set_option maxRecDepth 100000
namespace Go.Proofs.YtpdfkjjmcnhakaaGreatDoor
set_option maxHeartbeats 4000000
open Go Go.Fk Go.RowKit Tryz
variable (F:Nat){w:World}{K:C7}{Z:List Nat}{g1 g2 g3:Nat}{A B C D G H I J O R S T:Option Addr}{a b c d f i k l m n o p q s v x y aa ab ac ad ae af ag:Nat}
variable [dr:Dr]

theorem a6L {q0:List w8}{q1:List l3}{r:Bool}(hS:SH w K [] w K [])(l:b7 G2 K A a b q0)(C:b7 B3 K B c d q1)(hm:Q0 F q0 q1=some r):
  Calls prog 156 #[V3 A a b,V3 B c d] w (R_b w K r):=by
 rw [Q0] at hm
 refine ci func156 u ntmps156 (sr (lv (M7 u) (Q9 (lv (R1 u) (nq ?_)))))
 obtain⟨U,V,m⟩:=ob hm
 refine j9 (IE U w K [] K [] []) ?_ ?_
 ·refine i7 ?_
  obtain⟨aW,W,D⟩:=ob V
  refine qw (fun (o:Int)=>IW w K [] K [(0,V3 A a b),(1,V3 B c d),(5,V6 o)] [] (j5 o)) W ⟨K,u,hS,kr,R3⟩ ?_
  rintro o _ aX aY X G ⟨H,rfl,I,k,aZ⟩
  refine n9 (sr (mv u (mv u (lv (p7 underlying22 u (C.mono k)) (lv (o4 u u) (nq (D0 X u (fun Y q=>?_) (fun Y q=>?_))))))))
  ·refine i8 (qs (i7 (n9 ?_)))
   obtain⟨aa,ab,ac⟩:=ob q
   refine j9 (IV w K [] H [(0,V3 A a b),(1,V3 B c d),(5,V6 o),(41,.bool aa)] []) ?_ ?_
   ·refine D3 mixed (by kernel_rfl) I (km u (km u (kv (p7 underlying101 u (l.mono k)) (kv (a2y u u) (km u (bt ab (fun i s=>?_) (fun i s=>?_)))))))
    ·iterate 10 refine kn i ?_
     refine kv (L1 u i u) (km u ?_)
     iterate 12 refine qv u u u u ?_
     refine kv (L1 u u u) (A3 ?_)
     rintro ba ⟨ad,ae,af⟩
     cases oi s
     exact qd ⟨ad,u,ae,af⟩
    refine kg i (i4 u) (kg i (i4 u) ?_)
    obtain⟨J,ag,ah⟩:=ob s
    refine A8 (t:=G2) (wg u u i) u underlying101 E3 u u (l.mono k) ag fun ai aj bb ak al=>?_
    obtain⟨rfl,bc,bd⟩:=ak
    have am:D7 _ ai aj [sv J.Text,V6 J.At]:=al
    refine kg i (c7 a0h u) (kgh i (z7 D8 u (am 0 _ u)) (kg i (i4 u) (kg i (i4 u) ?_)))
    obtain⟨an,ao,ap⟩:=ob ah
    refine A8 (t:=B3) (wg u u i) u underlying22 D8 u u (C.mono k) ao fun aq ar be au aw=>?_
    obtain⟨rfl,bf⟩:=au
    have ax:D7 _ aq ar [sv an]:=aw
    refine kgh i (z7 D8 u (ax 0 _ u)) (kg i (X9 u u) (kv (m9 u i u) (km u (bt ap (fun f x=>?_) (fun f x=>?_)))))
    ·iterate 12 refine kn f ?_
     refine kv (L1 u f u) (A3 ?_)
     rintro bg ⟨ay,az,aA⟩
     cases oi x
     exact qd ⟨ay,u,az,aA⟩
    refine kg f (i4 u) (kg f (i4 u) ?_)
    obtain⟨O,aB,aC⟩:=ob x
    refine A8 (t:=G2) (wg u u f) u underlying101 E3 u u (l.mono k) aB fun aD aE bh aF aG=>?_
    obtain⟨rfl,bi,bj⟩:=aF
    have aH:D7 _ aD aE [sv O.Text,V6 O.At]:=aG
    refine kg f (c7 a0i u) (kgh f (z7 G4 u (aH 1 _ u)) (kg f (i4 u) ?_))
    obtain⟨R,aI,aJ⟩:=ob aC
    refine A8 (t:=G2) (wg u u f) u underlying101 E3 u u (l.mono k) aI fun aK aL bk aM aN=>?_
    obtain⟨rfl,bl,bm⟩:=aM
    have aO:D7 _ aK aL [sv R.Text,V6 R.At]:=aN
    refine kg f (c7 a0i u) (kgh f (z7 G4 u (aO 1 _ u)) (kg f (i4 u) (kg f (u6 u u) (kg f (U5 u u) (kv (m9 u f u) (A3 ?_))))))
    rintro bn ⟨aP,aQ,aR⟩
    cases oi aJ
    exact qd ⟨aP,u,aQ,aR⟩
   rintro _ bo ⟨S,rfl,T,aS⟩
   refine l4 (D0 ac u (fun aT y=>?_) (fun aT y=>?_))
   ·refine sr (lv (M7 u) (nq (l7 (j4 (g6 (g6 ?_))))))
    cases oi y
    cases G _ u
    refine j4 (g6 ?_)
    cases oi D
    refine g6 ?_
    cases oi m
    exact ey results156 ⟨S,u,T⟩
   refine i8 (q7 (l4 (j3 (mv u (lv (u6 u u) (av u (i5 ?_)))))))
   cases oi y
   exact qd ⟨_,u,S,u,T,(k.trans aS),(s6 _)⟩
  refine p9 (c9 (c9 ?_))
  cases oi q
  cases G _ u
  refine j7 ?_
  cases oi D
  exact I6 ⟨_,H,u,u,I,k⟩ trivial
 rintro _ bp ⟨bq,aU,rfl,rfl,aV,br⟩
 have m:=D9 m
 refine qr (lv (r_t u) (nq (l7 ?_)))
 cases oi m
 exact ey results156 ⟨aU,u,aV⟩

theorem a9s {q0:o0}{q1:List w8}{r:Int}(hS:SH w K [] w K [])(bn:b7 B3 K A a b q0.Stops)(s:b7 G5 K B c d q0.Syns)(V:b7 G2 K C f i q1)(hm:a02 F q0 q1=some r):
  Calls prog 111 #[.agg #[V3 A a b,V3 B c d],V3 C f i] w (R_i w K r):=by
 rw [a02] at hm
 refine ci func111 u ntmps111 (sr (bx u hS fun q bo W=>?_))
 have X:SH _ _ _ _ _ [r5 q [V3 A a b,V3 B c d] 38]:=W
 refine lv (R1 u) (nr (lv (r4 (v:=V6 (-1)) u) (Q9 (lv (R1 u) (nq ?_)))))
 obtain⟨I,Y,aa⟩:=ob hm
 refine j9 (IW w K [] K [(5,V6 I)] [] (j5 I)) ?_ ?_
 ·refine i7 ?_
  obtain⟨bp,ab,ac⟩:=ob Y
  refine qw (fun (o:Int×Int)=>IW w K [] K [(1,V3 C f i),(2,pt q),(5,V6 o.1),(6,V6 o.2)] [r5 q [V3 A a b,V3 B c d] 38] (j5 o.1∧j5 o.2)) ab ⟨K,u,X,kr,(by decide :j5 (-1)),R3⟩ ?_
  rintro o _ bq br ad ae ⟨J,rfl,x,m,O,af⟩
  refine n9 (sr (mv u (fl a0N u a5B m0 x u (lv (p7 underlying36 u (s.mono m)) (lv (o4 u u) (nq (D0 ad u (fun ag y=>?_) (fun ag y=>?_))))))))
  ·refine i8 (qs (i7 (n9 ?_)))
   obtain⟨ah,ai,aj⟩:=ob y
   refine j9 (IV w K [] J [(1,V3 C f i),(2,pt q),(5,V6 o.1),(6,V6 o.2),(42,.bool ah)] [r5 q [V3 A a b,V3 B c d] 38]) ?_ ?_
   ·refine D3 mixed (by kernel_rfl) x (km u (kv (c7 a0N u) (kh (u9 a5B u m0 u) (km u ?_))))
    obtain⟨ak,al,am⟩:=ob ai
    refine ki underlying36 a0T (s.mono m) al fun an ao bs ap aq=>?_
    obtain⟨ar,au,aw,rfl,ax,bu⟩:=ap
    have ay:D7 _ an ao [V3 ar au aw,sv ak.To]:=aq
    refine kv (c7 Q5 u) (kh (z7 W1 u (ay 0 _ u)) ?_)
    obtain⟨bv,az,aA⟩:=ob am
    refine kc b9A (fun _ _ aB R=>(a6L F) aB.enter0 (V.mono (m.trans R)) (ax.mono R) az) (km u (bt aA (fun l D=>?_) (fun l D=>?_)))
    ·refine kg l (i4 u) (kg l (o4 u u) (kg l (i4 u) (bt D (fun k G=>?_) (fun k G=>?_))))
     ·iterate 15 refine kn k ?_
      refine kg l (L1 u k u) (kv (q8 u l u) (A3 ?_))
      rintro bz ⟨aC,aD,aE⟩
      cases oi G
      exact qd ⟨aC,u,aD,aE⟩
     refine kg k (c7 a0N u) (kgh k (u9 a5B u m0 u) (kg k (i4 u) ?_))
     obtain⟨aF,aG,aH⟩:=ob G
     refine A8 (t:=G5) (wg u u k) u underlying36 a0T u u (s.mono m) aG fun aI aJ bA aK aL=>?_
     obtain⟨aM,aN,aO,rfl,aP,bB⟩:=aK
     have aQ:D7 _ aI aJ [V3 aM aN aO,sv aF.To]:=aL
     refine kg k (c7 Q5 u) (kgh k (z7 W1 u (aQ 0 _ u)) (kg k (p7 underlying22 u aP) (kg k (c7 a0N u) (kgh k (u9 a5B u m0 u) (kg k (i4 u) ?_)))))
     obtain⟨aR,aS,aT⟩:=ob aH
     refine A8 (t:=G5) (wg u u k) u underlying36 a0T u u (s.mono m) aS fun aU aV bC aW aX=>?_
     obtain⟨aY,aZ,ba,rfl,bb,bD⟩:=aW
     have bc:D7 _ aU aV [V3 aY aZ ba,sv aR.To]:=aX
     refine kg k (c7 Q5 u) (kgh k (z7 W1 u (bc 0 _ u)) (kg k (p7 underlying22 u bb) (kg k (E9 u u) (kg l (m9 u k u) (kv (q8 u l u) (A3 ?_))))))
     rintro bE ⟨bd,be,bf⟩
     cases oi aT
     exact qd ⟨bd,u,be,bf⟩
    refine kn l (kn l (kn l ?_))
    iterate 15 refine ku ?_
    refine kn l (kv (X8 u l u) (A3 ?_))
    rintro bF ⟨bg,bh,bi⟩
    cases oi D
    exact qd ⟨bg,u,bh,bi⟩
   rintro _ bG ⟨S,rfl,T,U⟩
   refine l4 (D0 aj u (fun bj H=>?_) (fun bj H=>?_))
   ·refine j3 (mv u (av u (nb (l4 (j3 (mv u (lv (u6 u u) (av u (i5 ?_)))))))))
    cases oi H
    exact qd ⟨_,u,S,u,T,(m.trans U),af,(s6 _)⟩
   refine i8 (q7 (l4 (j3 (mv u (lv (u6 u u) (av u (i5 ?_)))))))
   cases oi H
   exact qd ⟨_,u,S,u,T,(m.trans U),O,(s6 _)⟩
  refine p9 (c9 (c9 ?_))
  cases oi y
  cases ae _ u
  refine j7 ?_
  cases oi ac
  exact qd ⟨J,u,x.s,m,O⟩
 rintro _ bH ⟨bk,rfl,bl,bI,bm⟩
 refine qr (mv u (av u (nq (l7 ?_))))
 cases oi aa
 exact ey results111 ⟨bk,u,bl,bm⟩

theorem a3T {q0:u1}{q1:l3}{r:l3}(hS:SH w K [] w K [])(an:j5 q0.Id)(l:b7 F8 K A a b q0.Fields)(ao:b7 H5 K B c d q0.Nums)(ap:q1.length≤maxLen)(hm:S4 F q0 q1=some r):
  Calls prog 188 #[.agg #[V6 q0.Id,V3 A a b,V3 B c d],sv q1] w fun e w'=>∃K',e= .returned (sv r)∧SH w K [] w' K' []∧r.length≤maxLen:=by
 rw [S4] at hm
 refine ci func188 u ntmps188 (sr (bx u hS fun m aq H=>?_))
 have I:SH _ _ _ _ _ [r5 m [V6 q0.Id,V3 A a b,V3 B c d] 64]:=H
 refine lv (r_s u) (Q9 (lv (R1 u) (nq ?_)))
 obtain⟨J,O,k⟩:=ob hm
 refine j9 (IE J w K [] K [] []) ?_ ?_
 ·refine i7 ?_
  obtain⟨ar,R,y⟩:=ob O
  refine qw (fun (o:Int)=>IW w K [] K [(1,sv q1),(2,pt m),(5,V6 o)] [r5 m [V6 q0.Id,V3 A a b,V3 B c d] 64] (j5 o)) R ⟨K,u,I,kr,R3⟩ ?_
  rintro o _ au aw S C ⟨q,rfl,f,i,ax⟩
  refine n9 (sr (mv u (fl S7 u a3p m0 f u (lv (p7 underlying61 u (l.mono i)) (lv (o4 u u) (nq (D0 S u (fun T s=>?_) (fun T s=>?_))))))))
  ·refine i8 (qs (i7 (sr (fl S7 u a3p m0 f u (mv u ?_)))))
   obtain⟨D,U,V⟩:=ob s
   refine li underlying61 J6 (l.mono i) U fun W X ay Y aa=>?_
   obtain⟨rfl,az,aA⟩:=Y
   have ab:D7 _ W X [sv D.Name,sv D.Text]:=aa
   refine fa a1E u (lv (z2 D8 u f (ab 0 _ u)) (mv u (lv (J4 u u) (nq (D0 V u (fun ac x=>?_) (fun ac x=>?_))))))
   ·refine sr (fl S7 u a3p m0 f u (mv u ?_))
    obtain⟨G,ad,ae⟩:=ob x
    refine li underlying61 J6 (l.mono i) ad fun af ag aB ah ai=>?_
    obtain⟨rfl,aC,aj⟩:=ah
    have ak:D7 _ af ag [sv G.Name,sv G.Text]:=ai
    refine fa a5T u (lv (z2 D8 u f (ak 1 _ u)) (av u (nq (l7 (j4 (g6 (g6 ?_)))))))
    cases oi ae
    cases C _ u
    refine j4 (g6 ?_)
    cases oi y
    refine g6 ?_
    cases oi k
    exact ey results188 ⟨q,u,f.s,aj⟩
   refine i8 (q7 (l4 (j3 (mv u (lv (u6 u u) (av u (i5 ?_)))))))
   cases oi x
   exact qd ⟨_,u,q,u,f,i,(s6 _)⟩
  refine p9 (c9 (c9 ?_))
  cases oi s
  cases C _ u
  refine j7 ?_
  cases oi y
  exact I6 ⟨_,q,u,u,f.s,i⟩ trivial
 rintro _ aD ⟨aE,al,rfl,rfl,am,aF⟩
 have k:=D9 k
 refine qr (lv (r_s u) (nq (l7 ?_)))
 cases oi k
 exact ey results188 ⟨al,u,am,(by decide :([]:l3).length≤maxLen)⟩

theorem B2 {q0:y2}{q1:Int}{r:Int×y2}(hS:SH w K Z w K [r5 g1 [V3 A a b,V6 q0.p_] 140])(c:b7 tU8 K A a b q0.b_)(aF:j5 q0.p_)(aG:j5 q1)(hm:y9 F q0 q1=some r):
  Calls prog 81 #[.pointer (some ⟨g1,0,none⟩),V6 q1] w fun e w'=>∃a_2 n_3 c_4 K',e= .returned (V6 r.1)∧SH w K Z w' K' [r5 g1 [V3 a_2 n_3 c_4,V6 r.2.p_] 140]∧j5 r.1∧b7 tU8 K' a_2 n_3 c_4 r.2.b_∧j5 r.2.p_:=by
 rw [y9] at hm
 refine ci func81 u ntmps81 (sr (lv (R1 u) (nr (mv u (mv u (lv (u7 u) (fl b0o u G4 m0 hS u (lv (u6 u u) (lv (u7 u) ?_)))))))))
 refine fa b0o u (ls [V3 A a b,V6 (y8 (q0.p_+(1:Int)))] (V6 (y8 (q0.p_+(1:Int)))) G4 hS fun w9 k=>(ns (n9 ?_)))
 obtain⟨y,B,C⟩:=ob hm
 refine j9 (IV w K Z K [(0,pt g1),(1,V6 q1),(24,.bool y)] [r5 g1 [V3 A a b,V6 (y8 (q0.p_+(1:Int)))] 140]) ?_ ?_
 ·refine j3 (mv u (lv (o4 u u) (mv u (bt B (fun d l=>?_) (fun d l=>?_)))))
  ·iterate 6 refine lu d ?_
   refine lv (L1 u d u) (i5 ?_)
   cases oi l
   exact qd ⟨K,u,k,kr⟩
  refine lg d (i4 u) (lg d (u7 u) (lg d (c7 a2H u) (lg d (x8 b2n u m0 k u) (lg d (p7 underlying50 u c) (lg d (F7 u u) (lv (m9 u d u) (i5 ?_)))))))
  cases oi l
  exact qd ⟨K,u,k,kr⟩
 rintro _ aI ⟨q,rfl,i,f⟩
 refine l4 (D0 C u (fun D m=>?_) (fun D m=>?_))
 ·refine sr (lv (R1 u) (nq (rr ?_)))
  cases oi m
  exact ey results81 ⟨A,a,b,q,u,i,R3,(c.mono f),(s6 _)⟩
 refine i8 (qr (mv u (lv (u7 u) (fl b0o u G4 m0 i u (lv (I8 u u) (av u (Q9 (mv u (mv u ?_)))))))))
 refine lv (u7 u) (fl a2H u b2n m0 i u (lv (p7 underlying50 u (c.mono f)) (lv (o4 u u) (nq (D0 m u (fun G o=>?_) (fun G o=>?_))))))
 ·refine sr (mv u (lv (u7 u) (fl a2H u b2n m0 i u (mv u ?_))))
  obtain⟨H,I,J⟩:=ob o
  refine li underlying50 tf5 (c.mono f) I fun O R aJ S T=>?_
  obtain rfl:=S
  have U:D7 _ O R [iv8 H]:=T
  refine lv (z2 tf5 u i (U 0 _ u)) (lv (b2X underlying5 underlying3 u) (mv u ?_))
  obtain⟨aK,s,V⟩:=ob J
  refine lv (a8Y u u s) (av u (nq (rr ?_)))
  cases oi V
  exact ey results81 ⟨A,a,b,q,u,i,(b0M (b8U _) s),(c.mono f),(s6 _)⟩
 refine i8 (qs (D3 mixed (by kernel_rfl) i (km u (kv (u7 u) (kv (c7 a2H u) (kh (u9 b2n u m0 u) (km u (km u (kv (u7 u) ?_)))))))))
 refine kv (c7 a2H u) (kh (u9 b2n u m0 u) (kv (p7 underlying50 u (c.mono f)) ?_))
 obtain⟨aL,W,X⟩:=ob o
 refine kv (a8Y u u W) ?_
 obtain⟨Y,aa,ab⟩:=ob X
 refine ki underlying50 tf5 (c.mono f) aa fun ac ad aM ae af=>?_
 obtain rfl:=ae
 have ag:D7 _ ac ad [iv8 Y]:=af
 refine kh (z7 tf5 u (ag 0 _ u)) (kv (b2X underlying5 underlying3 u) (kv (a1k u u) (km u (kv (u7 u) (kv (c7 a2H u) (kh (u9 b2n u m0 u) (km u (kv (a1k u u) (kv (u6 u u) ?_)))))))))
 refine km u (kv (u7 u) (kv (c7 a2H u) (kh (u9 b2n u m0 u) (kv (p7 underlying50 u (c.mono f)) ?_))))
 obtain⟨aN,ah,ai⟩:=ob ab
 refine kv (a8Y u u ah) ?_
 obtain⟨aj,ak,al⟩:=ob ai
 refine ki underlying50 tf5 (c.mono f) ak fun am an aO ao ap=>?_
 obtain rfl:=ao
 have aq:D7 _ am an [iv8 aj]:=ap
 refine kh (z7 tf5 u (aq 0 _ u)) (kv (b2X underlying5 underlying3 u) (kv (a1k u u) (kv (u6 u u) (km u (kv (a1k u u) (kv (u6 u u) (km u (km u (kv (u7 u) ?_)))))))))
 refine kv (c7 a2H u) (kh (u9 b2n u m0 u) (kv (p7 underlying50 u (c.mono f)) ?_))
 obtain⟨aP,ar,au⟩:=ob al
 refine kv (a4y u u ar) (kv (a1k u u) (kv (u6 u u) ?_))
 obtain⟨aQ,aw,ax⟩:=ob au
 have ay:=oi aw
 refine kv (b3T u (congrArg (Value.int .i64) ay)) (A3 ?_)
 rintro aR ⟨az,aA,aB⟩
 refine qr (mv u (mv u ?_))
 obtain⟨aS,aC,aD⟩:=ob ax
 refine lv (a4y u u aC) (lv (b8Z u u) (av u (nr (mv u (mv u ?_)))))
 obtain⟨aT,x,aE⟩:=ob aD
 refine lv (a8Y u u x) (av u (nq (l7 ?_)))
 cases oi aE
 exact ey results81 ⟨A,a,b,az,u,aA,(b0M (s6 _) x),(c.mono (f.trans aB)),(s6 _)⟩

theorem a7B {q0:y2}{r:o0×y2}(hS:SH w K Z w K [r5 g1 [V3 A a b,V6 q0.p_] 140])(aI:b7 tU8 K A a b q0.b_)(aJ:j5 q0.p_)(hm:Y7 F q0=some r):
  Calls prog 129 #[.pointer (some ⟨g1,0,none⟩)] w fun e w'=>∃a_1 n_2 c_3 a_5 n_6 c_7 a_9 n_10 c_11 K',e= .returned (.agg #[V3 a_1 n_2 c_3,V3 a_5 n_6 c_7])∧SH w K Z w' K' [tail (V3 a_1 n_2 c_3) 9 1,tail (V3 a_5 n_6 c_7) 128 2,r5 g1 [V3 a_9 n_10 c_11,V6 r.2.p_] 140]∧b7 B3 K' a_1 n_2 c_3 r.1.Stops∧b7 G5 K' a_5 n_6 c_7 r.1.Syns∧b7 tU8 K' a_9 n_10 c_11 r.2.b_∧j5 r.2.p_:=by
 rw [Y7] at hm
 refine ci func129 rfl ntmps129 (sr (al E1 hS fun s w9 aK=>?_))
 have aL:SH _ _ _ _ _ [r5 s [V3 none 0 0,V3 none 0 0] 38,_]:=aK
 refine nr (lv (C4 (cs:=#[V3 none 0 0,V3 none 0 0]) c0J E1 rfl (by kernel_rfl)) (al E1 aL fun v bZ aM=>?_))
 have aN:SH _ _ _ _ _ [r5 v [V3 none 0 0,V3 none 0 0] 38,_,_]:=aM
 refine lw [V3 none 0 0,V3 none 0 0] E1 aN fun ca aO=>(Q9 (mv rfl ?_))
 obtain⟨aP,aQ,aR⟩:=ob hm
 have ak:=aO.f2
 refine lk a5m (B2 F ak.e1 aI aJ (by decide :j5 3) aQ) ?_
 rintro cb cc ⟨aS,aT,aU,am,rfl,aV,cd,aW,aX⟩
 have an:=(ak.c1 aV).t3
 refine lv (E9 rfl rfl) (nq ?_)
 obtain⟨ao,aY,aZ⟩:=ob aR
 refine j9 (fun E' w'=>∃x y B i k l C,E'=[(0,pt g1),(2,pt s),(3,pt v)]∧SH w K Z w' C [r5 g1 [V3 aS aT aU,V6 aP.2.p_] 140,r5 s [V3 none 0 0,V3 none 0 0] 38,r5 v [V3 x y B,V3 i k l] 38,tail (V3 x y B) 9 1,tail (V3 i k l) 128 2]∧H7 am C∧b7 B3 C x y B ao.Stops∧b7 G5 C i k l ao.Syns) ?_ ?_
 ·refine D0 aY rfl (fun ba W=>?_) (fun ba W=>?_)
  ·refine j3 (lb B3 (sv [116,104,101]) [sv [116,104,101]] ([116,104,101]:l3) underlying22 D8 ⟨rfl,(by decide :([116,104,101]:l3).length≤maxLen)⟩ an fun X ce bb bc bd be=>(fa a0M rfl (ls [V3 X 1 1,V3 none 0 0] (V3 X 1 1) W1 be.f2 fun cf bf=>(i5 ?_))))
   cases oi W
   have bg:=bf.nil 128 2
   exact qd ⟨X,1,1,none,0,0,bb,rfl,bg.f2.f2.f4.f4,bc,bd,(b7.nil _ _)⟩
  refine i8 ?_
  cases oi W
  have bh:=an.nil 9 1
  have bi:=bh.nil 128 2
  exact qd ⟨none,0,0,none,0,0,am,rfl,bi.f1.f3.f4.f4,kr,(b7.nil _ _),(b7.nil _ _)⟩
 rintro _ cg ⟨x,y,B,i,k,l,C,rfl,ap,bj,bk,aq⟩
 refine qs (sr (mv rfl ?_))
 obtain⟨bl,bm,bn⟩:=ob aZ
 refine lk a5m (B2 F ap.e1 (aW.mono bj) aX (by decide :j5 4) bm) ?_
 rintro ch cj ⟨bo,bp,bq,ar,rfl,S,ck,br,bs⟩
 have au:=(ap.c1 S).t5
 refine lv (F7 rfl rfl) (nq ?_)
 obtain⟨aw,bu,bv⟩:=ob bn
 refine j9 (fun E' w'=>∃c d f m o q D,E'=[(0,pt g1),(2,pt s),(3,pt v)]∧SH w K Z w' D [r5 g1 [V3 bo bp bq,V6 bl.2.p_] 140,r5 s [V3 none 0 0,V3 none 0 0] 38,r5 v [V3 c d f,V3 m o q] 38,tail (V3 c d f) 9 1,tail (V3 m o q) 128 2]∧H7 ar D∧b7 B3 D c d f aw.Stops∧b7 G5 D m o q aw.Syns) ?_ ?_
 ·refine D0 bu rfl (fun bx Y=>?_) (fun bx Y=>?_)
  ·refine j3 (bw [[100,111,103],[116,104,101]] underlying22 D8 au fun aa cl bz ax bA bB=>(fa a0M rfl (ls [V3 aa 2 2,V3 i k l] (V3 aa 2 2) W1 bB.f3 fun cm bC=>(i5 ?_))))
   cases oi Y
   exact qd ⟨aa,2,2,i,k,l,bz,rfl,bC.f5.f2.f2.f4.f4.s,ax,bA,(aq.mono (S.le.trans ax))⟩
  refine i8 ?_
  cases oi Y
  exact qd ⟨x,y,B,i,k,l,ar,rfl,au,kr,(bk.mono S.le),(aq.mono S.le)⟩
 rintro _ cn ⟨c,d,f,m,o,q,D,rfl,ay,bD,ab,bE⟩
 refine qs (sr (mv rfl ?_))
 obtain⟨cp,bF,bG⟩:=ob bv
 refine lk a5m (B2 F ay.e1 (br.mono bD) bs (by decide :j5 4) bF) ?_
 rintro cq cr ⟨ac,ad,ae,bH,rfl,G,ct,af,ag⟩
 have T:=(ay.c1 G).t5
 refine nq (i7 (sr (lv (F7 rfl rfl) (av rfl (nq (D0 bG rfl (fun bI ah=>?_) (fun bI ah=>?_)))))))
 ·refine j3 (bw [[110,101,119],[121,111,114,107]] underlying22 D8 T fun U cu cv az bJ bK=>(lv (C4 (cs:=#[V3 U 2 2,sv [110,121]]) b32 a0T rfl (by kernel_rfl)) (lb G5 (.agg #[V3 U 2 2,sv [110,121]]) [V3 U 2 2,sv [110,121]] (M2.mk ([([110,101,119]:l3),([121,111,114,107]:l3)]:List l3) ([110,121]:l3)) underlying36 a0T ⟨U,2,2,rfl,bJ,(by decide :([110,121]:l3).length≤maxLen)⟩ bK fun H cw bL aA bM bN=>(fa a0N rfl (ls [V3 c d f,V3 H 1 1] (V3 H 1 1) a5B bN.f4 fun cx aB=>(nb (qr (lv (s7 (ds:=[V3 c d f,V3 H 1 1]) E1 rfl m0 aB rfl rfl) (lw [V3 c d f,V3 H 1 1] E1 aB.f4 fun cy aC=>?_)))))))))
  refine nq (l7 ?_)
  cases oi ah
  exact ez results129 E1 aC m0 ⟨c,d,f,H,1,1,ac,ad,ae,bL,rfl,aC.f4.f3.f5.s,(ab.mono ((G.le.trans az).trans aA)),bM,(af.mono (az.trans aA)),ag⟩
 refine sr (lv (F7 rfl rfl) (av rfl (nq (D0 ah rfl (fun bO ai=>?_) (fun bO ai=>?_)))))
 ·refine j3 (lb B3 (sv [98,105,103]) [sv [98,105,103]] ([98,105,103]:l3) underlying22 D8 ⟨rfl,(by decide :([98,105,103]:l3).length≤maxLen)⟩ T fun I cz cA aD bP bQ=>(lv (C4 (cs:=#[V3 I 1 1,sv [108,97,114,103]]) b32 a0T rfl (by kernel_rfl)) (bw [[98,105,103],[114,101,100],[102,111,120]] underlying22 D8 bQ fun J cB cC aj bR bS=>(lv (C4 (cs:=#[V3 J 3 3,sv [102,111,120]]) b32 a0T rfl (by kernel_rfl)) (bw [[110,101,119],[121,111,114,107]] underlying22 D8 bS fun O cD cE V bT bU=>(lv (C4 (cs:=#[V3 O 2 2,sv [110,121]]) b32 a0T rfl (by kernel_rfl)) ?_))))))
  refine W7 (t:=G5) (n:=3) (pv:=[(0,.agg #[V3 I 1 1,sv [108,97,114,103]]),(1,.agg #[V3 J 3 3,sv [102,111,120]]),(2,.agg #[V3 O 2 2,sv [110,121]])]) (cs:=[V3 I 1 1,sv [108,97,114,103],V3 J 3 3,sv [102,111,120],V3 O 2 2,sv [110,121]]) (xs:=[(M2.mk ([([98,105,103]:l3)]:List l3) ([108,97,114,103]:l3)),(M2.mk ([([98,105,103]:l3),([114,101,100]:l3),([102,111,120]:l3)]:List l3) ([102,111,120]:l3)),(M2.mk ([([110,101,119]:l3),([121,111,114,107]:l3)]:List l3) ([110,121]:l3))]) wn rfl underlying36 a0T rfl rfl rfl (by kernel_rfl) rfl rfl (a06 (u:=.agg #[V3 I 1 1,sv [108,97,114,103]]) (z:=(M2.mk ([([98,105,103]:l3)]:List l3) ([108,97,114,103]:l3))) ⟨I,1,1,rfl,(bP.mono (aj.trans V)),(by decide :([108,97,114,103]:l3).length≤maxLen)⟩ (a06 (u:=.agg #[V3 J 3 3,sv [102,111,120]]) (z:=(M2.mk ([([98,105,103]:l3),([114,101,100]:l3),([102,111,120]:l3)]:List l3) ([102,111,120]:l3))) ⟨J,3,3,rfl,(bR.mono V),(by decide :([102,111,120]:l3).length≤maxLen)⟩ (a06 (u:=.agg #[V3 O 2 2,sv [110,121]]) (z:=(M2.mk ([([110,101,119]:l3),([121,111,114,107]:l3)]:List l3) ([110,121]:l3))) ⟨O,2,2,rfl,bT,(by decide :([110,121]:l3).length≤maxLen)⟩ a51))) bU ?_
  intro R cF bV aE bW bX
  refine fa a0N rfl (ls [V3 c d f,V3 R 3 3] (V3 R 3 3) a5B bX.f6 fun cG aF=>(nb (qr (lv (s7 (ds:=[V3 c d f,V3 R 3 3]) E1 rfl m0 aF rfl rfl) (lw [V3 c d f,V3 R 3 3] E1 aF.f6 fun cH aG=>(nq (l7 ?_)))))))
  cases oi ai
  exact ez results129 E1 aG m0 ⟨c,d,f,R,3,3,ac,ad,ae,bV,rfl,aG.f6.f3.f7.s,(b7.mono ((((G.le.trans aD).trans aj).trans V).trans aE) ab),bW,(b7.mono (((aD.trans aj).trans V).trans aE) af),ag⟩
 refine i8 (q7 (qr (lv (s7 (ds:=[V3 c d f,V3 m o q]) E1 rfl m2 T rfl rfl) (lw [V3 c d f,V3 m o q] E1 T.f1 fun cI aH=>(nq (l7 ?_))))))
 cases oi ai
 exact ez results129 E1 aH m0 ⟨c,d,f,m,o,q,ac,ad,ae,bH,rfl,aH.f1.f4.f4.s,(ab.mono G.le),(bE.mono G.le),af,ag⟩

theorem S8 {q0:y2}{q1:List l3}{r:l3×y2}(hS:SH w K Z w K [r5 g1 [V3 A a b,V6 q0.p_] 140])(l:b7 tU8 K A a b q0.b_)(m:j5 q0.p_)(f:b7 B3 K B c d q1)(hm:J1 F q0 q1=some r):
  Calls prog 42 #[.pointer (some ⟨g1,0,none⟩),V3 B c d] w fun e w'=>∃a_2 n_3 c_4 K',e= .returned (sv r.1)∧SH w K Z w' K' [r5 g1 [V3 a_2 n_3 c_4,V6 r.2.p_] 140]∧r.1.length≤maxLen∧b7 tU8 K' a_2 n_3 c_4 r.2.b_∧j5 r.2.p_:=by
 rw [J1] at hm
 refine ci func42 u ntmps42 (sr (lv (r_s u) (nr (mv u (mv u (mv u (lv (p7 underlying22 u f) ?_)))))))
 obtain⟨W,o,q⟩:=ob hm
 refine lk a5m (B2 F hS.e1 l m f.rn o) ?_
 rintro X Y ⟨s,x,y,C,rfl,i,aa,D,G⟩
 have k:=(hS.c1 i).t1
 obtain⟨H,I,J⟩:=ob q
 refine li underlying22 D8 (f.mono i.le) I fun O R ab S T=>?_
 obtain⟨rfl,U⟩:=S
 have V:D7 _ O R [sv H]:=T
 refine lv (z2 D8 u k (V 0 _ u)) (av u (nq (l7 ?_)))
 cases oi J
 exact ey results42 ⟨s,x,y,C,u,k,U,D,G⟩

theorem a8F {q0:y2}{r:l3×y2}(hS:SH w K Z w K [r5 g1 [V3 A a b,V6 q0.p_] 140])(d:b7 tU8 K A a b q0.b_)(f:j5 q0.p_)(hm:a0z F q0=some r):
  Calls prog 237 #[.pointer (some ⟨g1,0,none⟩)] w fun e w'=>∃a_2 n_3 c_4 K',e= .returned (sv r.1)∧SH w K Z w' K' [r5 g1 [V3 a_2 n_3 c_4,V6 r.2.p_] 140]∧r.1.length≤maxLen∧b7 tU8 K' a_2 n_3 c_4 r.2.b_∧j5 r.2.p_:=by
 rw [a0z] at hm
 refine ci func237 u ntmps237 (sr (lv (r_s u) (nr (mv u (bw [[99,97,116],[67,97,116,115],[100,111,103],[100,111,103,115],[114,117,110],[82,85,78,78,73,78,71],[116,104,101],[114,101,100],[98,105,103],[110,101,119,32,121,111,114,107],[78,101,119,32,32,89,111,114,107],[110,121],[102,111,120],[112,97,115,115,101,100],[120,49],[97,118,101,114,121,118,101,114,121,108,111,110,103,119,111,114,100]] underlying22 D8 hS fun I J O i k l=>?_)))))
 obtain⟨R,m,o⟩:=ob hm
 have c:=l.f1
 refine lk b5I (S8 F c.e1 (d.mono i) f k m) ?_
 rintro S T ⟨q,s,x,y,rfl,B,C,D,G⟩
 have H:=(c.c1 B).t2
 refine av u (nq (l7 ?_))
 cases oi o
 exact ey results237 ⟨q,s,x,y,u,H.s,C,D,G⟩

theorem a3S {q0:y2}{r:l3×y2}(hS:SH w K Z w K [r5 g1 [V3 A a b,V6 q0.p_] 140])(S:b7 tU8 K A a b q0.b_)(T:j5 q0.p_)(hm:L6 F q0=some r):
  Calls prog 222 #[.pointer (some ⟨g1,0,none⟩)] w fun e w'=>∃a_2 n_3 c_4 K',e= .returned (sv r.1)∧SH w K Z w' K' [r5 g1 [V3 a_2 n_3 c_4,V6 r.2.p_] 140]∧r.1.length≤maxLen∧b7 tU8 K' a_2 n_3 c_4 r.2.b_∧j5 r.2.p_:=by
 rw [L6] at hm
 refine ci func222 u ntmps222 (sr (lv (r_s u) (nr (lv (r_s u) (Q9 (mv u ?_))))))
 obtain⟨r7,U,V⟩:=ob hm
 refine lk a5m (B2 F hS.e1 S T (by decide :j5 9) U) ?_
 rintro aO aP ⟨W,X,Y,x,rfl,aa,ab,ac,ad⟩
 have ae:=(hS.c1 aa).t1
 refine av u (nq ?_)
 obtain⟨d,af,ag⟩:=ob V
 refine j9 (fun E' w'=>∃k l m f,E'=[(0,pt g1),(3,sv d.1)]∧SH w K Z w' f [r5 g1 [V3 k l m,V6 d.2.p_] 140]∧H7 x f∧d.1.length≤maxLen∧b7 tU8 f k l m d.2.b_∧j5 d.2.p_) ?_ ?_
 ·refine i7 ?_
  obtain⟨aQ,ah,ai⟩:=ob af
  refine qw (fun (c:l3×Int×y2) E' w'=>∃o q s i,E'=[(0,pt g1),(3,sv c.1),(4,V6 c.2.1)]∧SH w K Z w' i [r5 g1 [V3 o q s,V6 c.2.2.p_] 140]∧H7 x i∧c.1.length≤maxLen∧j5 c.2.1∧b7 tU8 i o q s c.2.2.b_∧j5 c.2.2.p_) ah ⟨W,X,Y,x,u,ae,kr,(by decide :([]:l3).length≤maxLen),ab,ac,ad⟩ ?_
  rintro c _ aR aS aj ak ⟨o,q,s,i,rfl,y,C,al,aT,D,G⟩
  refine n9 (sr (mv u (lv (E9 u u) (nq (D0 aj u (fun am B=>?_) (fun am B=>?_))))))
  ·refine i8 (qs (i7 (j3 (mv u (mv u ?_)))))
   obtain⟨aU,an,ao⟩:=ob B
   refine lk b9J (a8F F y.e1 D G an) ?_
   rintro aV aW ⟨aX,aY,aZ,ba,rfl,H,bb,ap,aq⟩
   have ar:=(y.c1 H).t1
   obtain⟨bc,au,aw⟩:=ob ao
   refine lv (a0L u u au) (mv u (bw [[32],[32],[44,32],[45],[46,32]] underlying22 D8 ar fun bd be bf I ax ay=>?_))
   obtain⟨bg,az,aA⟩:=ob aw
   have J:=ay.f1
   refine lk b5I (S8 F J.e1 (ap.mono I) aq ax az) ?_
   rintro bh bi ⟨aB,aC,aD,aE,rfl,O,bj,aF,aG⟩
   have aH:=(J.c1 O).t2
   obtain⟨bk,R,aI⟩:=ob aA
   refine lv (a0L u u R) (av u (nb (l4 (j3 (mv u (lv (I8 u u) (av u (i5 ?_))))))))
   cases oi aI
   exact qd ⟨_,u,aB,aC,aD,aE,u,aH.s,(((C.trans H.le).trans I).trans O.le),(a2b R),(s6 _),aF,aG⟩
  refine p9 (c9 (c9 ?_))
  cases oi B
  cases ak _ u
  refine j7 ?_
  cases oi ai
  exact qd ⟨o,q,s,i,u,y,C,al,D,G⟩
 rintro _ bl ⟨k,l,m,f,rfl,aJ,bm,aK,aL,aM⟩
 refine qr (mv u (av u (nq (l7 ?_))))
 cases oi ag
 exact ey results222 ⟨k,l,m,f,u,aJ,aK,aL,aM⟩

theorem a3e {q0:y2}{r:l3×y2}(hS:SH w K Z w K [r5 g1 [V3 A a b,V6 q0.p_] 140])(d:b7 tU8 K A a b q0.b_)(f:j5 q0.p_)(hm:V7 F q0=some r):
  Calls prog 41 #[.pointer (some ⟨g1,0,none⟩)] w fun e w'=>∃a_2 n_3 c_4 K',e= .returned (sv r.1)∧SH w K Z w' K' [r5 g1 [V3 a_2 n_3 c_4,V6 r.2.p_] 140]∧r.1.length≤maxLen∧b7 tU8 K' a_2 n_3 c_4 r.2.b_∧j5 r.2.p_:=by
 rw [V7] at hm
 refine ci func41 u ntmps41 (sr (lv (r_s u) (nr (mv u (bw [[98,111,100,121],[98,111,100,121],[116,105,116,108,101],[110,111,110,101]] underlying22 D8 hS fun I J O i k l=>?_)))))
 obtain⟨R,m,o⟩:=ob hm
 have c:=l.f1
 refine lk b5I (S8 F c.e1 (d.mono i) f k m) ?_
 rintro S T ⟨q,s,x,y,rfl,B,C,D,G⟩
 have H:=(c.c1 B).t2
 refine av u (nq (l7 ?_))
 cases oi o
 exact ey results41 ⟨q,s,x,y,u,H.s,C,D,G⟩

theorem a8B {q0:o0}{q1:List w8}{q2:Int}{r:(Option M2)}(hS:SH w K [] w K [])(ch:b7 B3 K A a b q0.Stops)(J:b7 G5 K B c d q0.Syns)(ac:b7 G2 K C f i q1)(cj:j5 q2)(hm:a0v F q0 q1 q2=some r):
  Calls prog 96 #[.agg #[V3 A a b,V3 B c d],V3 C f i,V6 q2] w fun e w'=>∃v_1 K',e= .returned (v_1)∧SH w K [] w' K' []∧a4X G5 K' v_1 r:=by
 rw [a0v] at hm
 refine ci func96 u ntmps96 (sr (bx u hS fun s ck ax=>?_))
 have ao:SH _ _ _ _ _ [r5 s [V3 A a b,V3 B c d] 38]:=ax
 refine lv (r4 (v:=.pointer none) u) (nr (lv (r4 (v:=.pointer none) u) (Q9 (fl a0N u a5B m0 ao u (lv (p7 underlying36 u J) (lv (r_m u) (nq ?_)))))))
 obtain⟨ay,az,aA⟩:=ob hm
 refine j9 (fun E' w'=>∃v25 O,E'=[(7,v25)]∧SH w K [] w' O []∧H7 K O∧a4X G5 O v25 ay) ?_ ?_
 ·refine i7 ?_
  obtain⟨cl,aB,aC⟩:=ob az
  refine qF (fun (R:Nat) (ad:(Option M2)) E' w'=>∃v36 G,E'=[(1,V3 C f i),(2,V6 q2),(3,pt s),(7,v36),(16,V6 (q0.Syns.length:Int)),(17,V6 ((R:Nat):Int))]∧SH w K [] w' G [r5 s [V3 A a b,V3 B c d] 38]∧H7 K G∧a4X G5 G v36 ad) aB ⟨(.pointer none),K,u,ao,kr,(show a4X G5 _ _ none from u)⟩ ?_ ?_
  ·rintro R ad _ aD cm hi39 aE ⟨v36,G,rfl,U,x,hp37⟩
   refine sr (lv (o4 u u) (ns (y5 u (b8 (by omega)) (i8 (l4 (n9 (i7 (sr (mv u (av u (nr (fl a0N u a5B m0 U u ?_))))))))))))
   refine mv u ?_
   obtain⟨ae,aF,aG⟩:=ob aE
   refine li underlying36 a0T (J.mono x) aF fun H I cn aH aI=>?_
   obtain⟨V,W,X,rfl,y,aJ⟩:=aH
   have Y:D7 _ H I [V3 V W X,sv ae.To]:=aI
   refine av u (ns (n9 ?_))
   obtain⟨aK,aL,aM⟩:=ob aG
   refine j9 (IV w K [] G [(1,V3 C f i),(2,V6 q2),(3,pt s),(7,v36),(9,.pointer (some ⟨H,I,none⟩)),(16,V6 (q0.Syns.length:Int)),(17,V6 ((R:Nat):Int)),(50,.bool aK)] [r5 s [V3 A a b,V3 B c d] 38]) ?_ ?_
   ·refine D3 mixed (by kernel_rfl) U (km u (kv (u7 u) (kv (c7 Q5 u) (kh (z7 W1 u (Y 0 _ u)) (kv (p7 underlying22 u y) (km u (kv (p7 underlying101 u (ac.mono x)) (km u (kv (I8 u u) ?_)))))))))
    refine kv (E9 u u) (km u (bt aL (fun o af=>?_) (fun o af=>?_)))
    ·refine kn o (kn o (kn o ?_))
     iterate 11 refine ku ?_
     refine kn o (kv (L1 u o u) (A3 ?_))
     rintro cp ⟨aN,aO,aP⟩
     cases oi af
     exact qd ⟨aN,u,aO,aP⟩
    refine kg o (i4 u) (kg o (b2Y underlying156 u u hp37) (kg o (i4 u) (bt af (fun k ag=>?_) (fun k ag=>?_))))
    ·refine kg k (i4 u) (kg k (u7 u) (kg k (c7 Q5 u) (kgh k (z7 W1 u (Y 0 _ u)) (kg k (p7 underlying22 u y) (kg k (i4 u) ?_)))))
     obtain⟨aQ,aR,aS⟩:=ob ag
     obtain⟨aT,aU,cq,rfl,aV,aW⟩:=a4X.get hp37 aR
     obtain⟨aX,aY,aZ,rfl,ba,cr⟩:=aV
     have bb:D7 _ aT aU [V3 aX aY aZ,sv aQ.To]:=aW
     refine kg k (u7 u) (kg k (c7 Q5 u) (kgh k (z7 W1 u (bb 0 _ u)) (kg k (p7 underlying22 u ba) (kg k (U4 u u) (kg o (q8 u k u) (kv (m9 u o u) (A3 ?_)))))))
     rintro cs ⟨bc,bd,be⟩
     cases oi aS
     exact qd ⟨bc,u,bd,be⟩
    iterate 11 refine kn k ?_
    refine kg o (X8 u k u) (kv (m9 u o u) (A3 ?_))
    rintro ct ⟨bf,bg,bh⟩
    cases oi ag
    exact qd ⟨bf,u,bg,bh⟩
   rintro _ cu ⟨aa,rfl,ah,l⟩
   refine l4 (D0 aM u (fun bi ai=>?_) (fun bi ai=>?_))
   ·refine p9 (c9 (j7 (qg (lv (u3 u u (x9 hi39 (b7.max J))) (mv u (i5 ?_))))))
    cases oi ai
    exact qd ⟨v36,aa,u,ah,(x.trans l),(a4X.mono l hp37)⟩
   refine i8 (qr (lv (r_t u) (Q9 (mv u (lv (u7 u) (fa Q5 u (lv (z2 W1 u ah ((D7.mono l Y) 0 _ u)) (lv (p7 underlying22 u (y.mono l)) (lv (r_m u) ?_)))))))))
   refine nq ?_
   obtain⟨bj,bk,bl⟩:=ob ai
   refine j9 (IV w K [] aa [(1,V3 C f i),(2,V6 q2),(3,pt s),(7,v36),(9,.pointer (some ⟨H,I,none⟩)),(10,.bool bj),(16,V6 (q0.Syns.length:Int)),(17,V6 ((R:Nat):Int))] [r5 s [V3 A a b,V3 B c d] 38]) ?_ ?_
   ·refine i7 ?_
    obtain⟨cv,bm,bn⟩:=ob bk
    refine qF (fun (ap:Nat) (aj:Bool)=>IV w K [] aa [(1,V3 C f i),(2,V6 q2),(3,pt s),(7,v36),(9,.pointer (some ⟨H,I,none⟩)),(10,.bool aj),(16,V6 (q0.Syns.length:Int)),(17,V6 ((R:Nat):Int)),(54,V3 V W X),(55,V6 (ae.From.length:Int)),(56,V6 ((ap:Nat):Int))] [r5 s [V3 A a b,V3 B c d] 38]) bm ⟨aa,u,ah,kr⟩ ?_ ?_
    ·rintro ap aj _ bo cw hi112 bp ⟨aq,rfl,S,D⟩
     refine sr (lv (o4 u u) (ns (y5 u (b8 (by omega)) (i8 (l4 (n9 (i7 (sr (mv u ?_)))))))))
     obtain⟨bq,br,bs⟩:=ob bp
     refine li underlying22 D8 (y.mono (l.trans D)) br fun bu bv cx bz bA=>?_
     obtain⟨rfl,cy⟩:=bz
     have bB:D7 _ bu bv [sv bq]:=bA
     refine lv (z2 D8 u S (bB 0 _ u)) (av u (av u (nr (mv u (mv u (mv u (lv (u6 u u) ?_)))))))
     obtain⟨ab,bC,bD⟩:=ob bs
     refine li underlying101 E3 (ac.mono ((x.trans l).trans D)) bC fun bE bF cz bG bH=>?_
     obtain⟨rfl,cA,cB⟩:=bG
     have bI:D7 _ bE bF [sv ab.Text,V6 ab.At]:=bH
     refine lv (C9 E3 u S bI u) (al E3 S fun bJ cC bK=>?_)
     have bL:SH _ _ _ _ _ [r5 bJ [sv [],V6 0] 104,_]:=bK
     refine lw [sv ab.Text,V6 ab.At] E3 bL fun cD bM=>(nq (D3 mixed (by kernel_rfl) bM (km u (km u (bt bD (fun q ak=>?_) (fun q ak=>?_))))))
     ·refine kg q (c7 a0h u) (kgh q (u9 D8 u m0 u) (kg q (i4 u) (kg q (J4 u u) (kv (q8 u q u) (km u (bt ak (fun m am=>?_) (fun m am=>?_)))))))
      ·refine kg m (c7 a0i u) (kgh m (u9 G4 u m0 u) (kg m (i4 u) (kg m (i4 u) ?_)))
       obtain⟨ar,bN,bO⟩:=ob am
       refine A8 (t:=G2) (wg u u m) u underlying101 E3 u u (ac.mono ((x.trans l).trans D)) bN fun bP bQ cE bR bS=>?_
       obtain⟨rfl,cF,cG⟩:=bR
       have bT:D7 _ bP bQ [sv ar.Text,V6 ar.At]:=bS
       refine kg m (c7 a0i u) (kgh m (z7 G4 u (bT 1 _ u)) (kg m (i4 u) (kg m (u6 u u) (kg m (F7 u u) (kv (q8 u m u) (kv (r4 u) (A3 ?_)))))))
       rintro cH ⟨bU,bV,bW⟩
       refine q7 (qg (lv (u3 u u (x9 hi112 (b7.max (y.mono l)))) (mv u (i5 ?_))))
       cases oi bO
       exact qd ⟨bU,u,bV.s,(D.trans bW)⟩
      iterate 10 refine kn m ?_
      refine kv (X8 u m u) (kv (r4 u) (A3 ?_))
      rintro cI ⟨bX,bY,bZ⟩
      refine q7 (qg (lv (u3 u u (x9 hi112 (b7.max (y.mono l)))) (mv u (i5 ?_))))
      cases oi am
      exact qd ⟨bX,u,bY.s,(D.trans bZ)⟩
     refine kn q (kn q (kn q (kn q (kv (X8 u q u) (km u ?_)))))
     iterate 10 refine qv u u u u ?_
     refine kv (X8 u u u) (kv (r4 u) (A3 ?_))
     rintro cJ ⟨ca,cb,cc⟩
     refine q7 (qg (lv (u3 u u (x9 hi112 (b7.max (y.mono l)))) (mv u (i5 ?_))))
     cases oi ak
     exact qd ⟨ca,u,cb.s,(D.trans cc)⟩
    rintro aj _ bo cd ⟨aq,rfl,S,D⟩
    subst cd
    refine sr (lv (o4 u u) (ns (y4 u (c6 (by omega)) (p9 (c9 (c9 (j7 ?_)))))))
    cases oi bn
    exact qd ⟨aq,u,S,D⟩
   rintro _ cK ⟨au,rfl,aw,T⟩
   refine qr (mv u (nq (D0 bl u (fun ce an=>?_) (fun ce an=>?_))))
   ·refine j3 (mv u (av u (nb (qg (lv (u3 u u (x9 hi39 (b7.max J))) (mv u (i5 ?_)))))))
    cases oi an
    exact qd ⟨(.pointer (some ⟨H,I,none⟩)),au,u,aw,((x.trans l).trans T),⟨H,I,.agg #[V3 V W X,sv ae.To],u,⟨V,W,X,u,(y.mono (l.trans T)),aJ⟩,(D7.mono (l.trans T) Y)⟩⟩
   refine i8 (q7 (qg (lv (u3 u u (x9 hi39 (b7.max J))) (mv u (i5 ?_)))))
   cases oi an
   exact qd ⟨v36,au,u,aw,((x.trans l).trans T),(a4X.mono (l.trans T) hp37)⟩
  rintro ad _ aD cf ⟨v36,G,rfl,U,x,hp37⟩
  subst cf
  refine sr (lv (o4 u u) (ns (y4 u (c6 (by omega)) (p9 (c9 (c9 (j7 ?_)))))))
  cases oi aC
  exact qd ⟨v36,G,u,U.s,x,hp37⟩
 rintro _ cL ⟨v25,O,rfl,cg,cM,hp26⟩
 refine qr (mv u (av u (nq (l7 ?_))))
 cases oi aA
 exact ey results96 ⟨v25,O,u,cg,hp26⟩

theorem a6H {q0:u1}{r:u1}(hS:SH w K [] w K [])(G:j5 q0.Id)(H:b7 F8 K A a b q0.Fields)(I:b7 H5 K B c d q0.Nums)(hm:V2 F q0=some r):
  Calls prog 133 #[.agg #[V6 q0.Id,V3 A a b,V3 B c d]] w fun e w'=>∃a_2 n_3 c_4 a_6 n_7 c_8 K',e= .returned (.agg #[V6 r.Id,V3 a_2 n_3 c_4,V3 a_6 n_7 c_8])∧SH w K [] w' K' [tail (V3 a_2 n_3 c_4) 118 2,tail (V3 a_6 n_7 c_8) 135 2]∧j5 r.Id∧b7 F8 K' a_2 n_3 c_4 r.Fields∧b7 H5 K' a_6 n_7 c_8 r.Nums:=by
 rw [V2] at hm
 refine ci func133 u ntmps133 (sr (bx u hS fun aC aX aE=>?_))
 have aF:SH _ _ _ _ _ [r5 aC [V6 q0.Id,V3 A a b,V3 B c d] 64]:=aE
 refine al C8 aF fun aG aY aH=>?_
 have aI:SH _ _ _ _ _ [r5 aG [V6 0,V3 none 0 0,V3 none 0 0] 64,_]:=aH
 refine ns ?_
 obtain⟨aZ,J,aJ⟩:=ob hm
 obtain⟨ba,O,R⟩:=ob aJ
 have v:=aI.drew
 refine j_0 (fun w'=>F0 K w'∧A4 aC [V6 q0.Id,V3 A a b,V3 B c d] w') 12 [] mixed ⟨v.hasK kr,v.hasObj m1⟩ (jv 0 u (c7 T9 u) (jh 1 u (fun _ h=>z8 G4 u u h.2) (jv 3 u (c7 S7 u) (jh 4 u (fun _ h=>z8 a3p u u h.2) (jv 7 u (c7 a0r u) (jh 8 u (fun _ h=>z8 a43 u u h.2) (j2 2 6 u u ?_ ?_)))))))
 ·refine b0 F8 underlying61 J6 v fun bb bc bd f aD x=>(j_o ⟨x.hasK f,x.hasObj m2⟩ (j2 5 6 u u ?_ ?_))
  ·refine lp underlying61 J6 aD (H.mono f) J x fun S T U be bf m aK V=>(j_o ⟨V.hasK (f.trans m),V.hasObj m2⟩ (j1 6 u (b0 H5 underlying62 P0 V fun bg bh bi o aL W=>(j_o ⟨W.hasK ((f.trans m).trans o),W.hasObj m3⟩ (j1 9 u (lp underlying62 P0 aL (I.mono ((f.trans m).trans o)) O W fun X Y aa bj aM ab aN ac=>(j_o ⟨ac.hasK (((f.trans m).trans o).trans ab),ac.hasObj m3⟩ (jv 10 u (C4 (cs:=#[V6 q0.Id,V3 S T U,V3 X Y aa]) b15 C8 u (by kernel_rfl)) (j1 11 u ?_)))))))))
   refine lw [V6 q0.Id,V3 S T U,V3 X Y aa] C8 ac.f2 fun bk y=>(j_o ⟨y.hasK (((f.trans m).trans o).trans ab),y.hasObj m3⟩ (jd (l4 (l7 ?_))))
   cases oi R
   exact ez results133 C8 y m0 ⟨S,T,U,X,Y,aa,aM,u,y.f1.f2.s,G,(aK.mono (o.trans ab)),aN⟩
  refine b0 H5 underlying62 P0 x fun bl bm bn i aO ad=>(j_o ⟨ad.hasK (f.trans i),ad.hasObj m3⟩ (j1 5 u (lp underlying61 J6 (aD.mono i) (H.mono (f.trans i)) J ad.f1 fun ae af ag bo bp q aP ah=>(j_o ⟨ah.hasK ((f.trans i).trans q),ah.hasObj m3⟩ (j1 9 u (lp underlying62 P0 (aO.mono q) (I.mono ((f.trans i).trans q)) O ah.f1 fun ai aj ak bq aQ am aR an=>(j_o ⟨an.hasK (((f.trans i).trans q).trans am),an.hasObj m3⟩ (jv 10 u (C4 (cs:=#[V6 q0.Id,V3 ae af ag,V3 ai aj ak]) b15 C8 u (by kernel_rfl)) (j1 11 u ?_)))))))))
  refine lw [V6 q0.Id,V3 ae af ag,V3 ai aj ak] C8 an.f2 fun br C=>(j_o ⟨C.hasK (((f.trans i).trans q).trans am),C.hasObj m3⟩ (jd (l4 (l7 ?_))))
  cases oi R
  exact ez results133 C8 C m0 ⟨ae,af,ag,ai,aj,ak,aQ,u,C.f1.f2.s,G,(aP.mono am),aR⟩
 refine b0 H5 underlying62 P0 v fun bs bu bv k aS ao=>(j_o ⟨ao.hasK k,ao.hasObj m2⟩ (j1 2 u (b0 F8 underlying61 J6 ao fun bz bA bB l aT ap=>(j_o ⟨ap.hasK (k.trans l),ap.hasObj m3⟩ (j1 5 u (lp underlying61 J6 aT (H.mono (k.trans l)) J ap fun aq ar au bC bD s aU aw=>(j_o ⟨aw.hasK ((k.trans l).trans s),aw.hasObj m3⟩ (j1 9 u (lp underlying62 P0 (aS.mono (l.trans s)) (I.mono ((k.trans l).trans s)) O aw.f1 fun ax ay az bE aV aA aW aB=>?_)))))))))
 refine j_o ⟨aB.hasK (((k.trans l).trans s).trans aA),aB.hasObj m3⟩ (jv 10 u (C4 (cs:=#[V6 q0.Id,V3 aq ar au,V3 ax ay az]) b15 C8 u (by kernel_rfl)) (j1 11 u (lw [V6 q0.Id,V3 aq ar au,V3 ax ay az] C8 aB.f2 fun bF D=>(j_o ⟨D.hasK (((k.trans l).trans s).trans aA),D.hasObj m3⟩ (jd (l4 (l7 ?_)))))))
 cases oi R
 exact ez results133 C8 D m0 ⟨aq,ar,au,ax,ay,az,aV,u,D.f1.f2.s,G,(aU.mono aA),aW⟩

theorem a56 {q0:List u1}{r:(List u1)}(hS:SH w K [] w K [])(x:b7 E5 K A a b q0)(hm:R9 F q0=some r):
  Calls prog 86 #[V3 A a b] w fun e w'=>∃a_1 n_2 c_3 K',e= .returned (V3 a_1 n_2 c_3)∧SH w K [] w' K' [tail (V3 a_1 n_2 c_3) 64 3]∧b7 E5 K' a_1 n_2 c_3 r:=by
 rw [R9] at hm
 refine ci func86 u ntmps86 (sr (lv (r_n u) (nr (b0 E5 underlying40 C8 hS fun a5 w6 y B ag ah=>(av u (Q9 (mv u (lv (p7 underlying40 u (x.mono B)) (lv (r_m u) ?_)))))))))
 refine nq ?_
 obtain⟨ai,aj,ak⟩:=ob hm
 refine j9 (fun E' w'=>∃k l m o,E'=[(3,V3 k l m)]∧SH w K [] w' o [tail (V3 k l m) 64 3]∧H7 y o∧b7 E5 o k l m ai) ?_ ?_
 ·refine i7 ?_
  obtain⟨bb,am,an⟩:=ob aj
  refine qF (fun (ad:Nat) (C:(List u1)) E' w'=>∃c d f i,E'=[(3,V3 c d f),(7,V3 A a b),(8,V6 (q0.length:Int)),(9,V6 ((ad:Nat):Int))]∧SH w K [] w' i [tail (V3 c d f) 64 3]∧H7 y i∧b7 E5 i c d f C) am ⟨a5,0,0,y,u,ah,kr,ag⟩ ?_ ?_
  ·rintro ad C _ ao bc hi37 ap ⟨c,d,f,i,rfl,q,s,D⟩
   refine sr (lv (o4 u u) (ns (y5 u (b8 (by omega)) (i8 (l4 (n9 (i7 (sr ?_))))))))
   obtain⟨G,aq,ar⟩:=ob ap
   refine li underlying40 C8 (x.mono (B.trans s)) aq fun au aw bd ax ay=>?_
   obtain⟨H,I,J,O,R,S,rfl,az,aA,aB⟩:=ax
   have aC:D7 _ au aw [V6 G.Id,V3 H I J,V3 O R S]:=ay
   refine lv (C9 C8 u q aC u) (al C8 q fun aD be aE=>?_)
   have aF:SH _ _ _ _ _ [r5 aD [V6 0,V3 none 0 0,V3 none 0 0] 64,_]:=aE
   refine lw [V6 G.Id,V3 H I J,V3 O R S] C8 aF fun bf T=>(nq (j3 (mv u (lv (s7 (ds:=[V6 G.Id,V3 H I J,V3 O R S]) C8 u m0 T u u) ?_))))
   obtain⟨U,aG,aH⟩:=ob ar
   refine lk b9l (a6H F T.enter0 az aA aB aG) ?_
   rintro bg bh ⟨V,W,X,Y,aa,ab,bi,rfl,ac,aI,aJ,aK⟩
   have aL:=(T.c0 ac).t4
   refine lb E5 (.agg #[V6 U.Id,V3 V W X,V3 Y aa ab]) [V6 U.Id,V3 V W X,V3 Y aa ab] U underlying40 C8 ⟨V,W,X,Y,aa,ab,u,aI,aJ,aK⟩ aL fun bj bk bl ae aM aN=>?_
   obtain⟨bm,aO,aP⟩:=ob aH
   refine lp underlying40 C8 (D.mono (ac.le.trans ae)) aM aO aN.f4 fun aQ aR aS bn aT aU aV aW=>(av u (nb (qg (lv (u3 u u (x9 hi37 (b7.max (x.mono B)))) (mv u (i5 ?_))))))
   cases oi aP
   exact qd ⟨aQ,aR,aS,aT,u,aW.s,(((s.trans ac.le).trans ae).trans aU),aV⟩
  rintro C _ ao aX ⟨c,d,f,i,rfl,q,s,D⟩
  subst aX
  refine sr (lv (o4 u u) (ns (y4 u (c6 (by omega)) (p9 (c9 (c9 (j7 ?_)))))))
  cases oi an
  exact qd ⟨c,d,f,i,u,q,s,D⟩
 rintro _ bo ⟨k,l,m,o,rfl,aY,bp,aZ⟩
 refine qr (mv u (av u (nq (l7 ?_))))
 cases oi ak
 exact ey results86 ⟨k,l,m,o,u,aY,aZ⟩

theorem H0 {q0:J8}{q1:l3}{q2:l3}{r:(List D1)}(hS:SH w K Z w K [r5 g1 [V3 A a b,V3 B c d,V3 C f i,V3 D k l] 161])(aC:b7 B3 K A a b q0.c_.Stops)(aD:b7 G5 K B c d q0.c_.Syns)(aE:b7 E5 K C f i q0.s_.Docs)(O:b7 B4 K D k l q0.s_.Entries)(aF:q1.length≤maxLen)(aG:q2.length≤maxLen)(hm:F4 F q0 q1 q2=some r):
  Calls prog 193 #[.pointer (some ⟨g1,2,none⟩),sv q1,sv q2] w fun e w'=>∃a_1 n_2 c_3 K',e= .returned (V3 a_1 n_2 c_3)∧SH w K Z w' K' [r5 g1 [V3 A a b,V3 B c d,V3 C f i,V3 D k l] 161]∧b7 P8 K' a_1 n_2 c_3 r:=by
 rw [F4] at hm
 refine ci func193 u ntmps193 (sr (lv (r_n u) (Q9 (mv u (lv (u7 u) (fl P7 u a2A m0 hS u (lv (p7 underlying41 u O) (lv (r_m u) (nq ?_)))))))))
 obtain⟨ab,ac,s⟩:=ob hm
 refine j9 (IE ab w K Z K [(0,.pointer (some ⟨g1,2,none⟩))] [r5 g1 [V3 A a b,V3 B c d,V3 C f i,V3 D k l] 161]) ?_ ?_
 ·refine i7 ?_
  obtain⟨aH,ad,W⟩:=ob ac
  refine qf (fun (R:Nat) (X:Unit)=>IV w K Z K [(0,.pointer (some ⟨g1,2,none⟩)),(1,sv q1),(2,sv q2),(12,V3 D k l),(13,V6 (q0.s_.Entries.length:Int)),(14,V6 ((R:Nat):Int))] [r5 g1 [V3 A a b,V3 B c d,V3 C f i,V3 D k l] 161]) ad ⟨K,u,hS,kr⟩ ?_ ?_
  ·rintro R X _ ae aI hi38 af ag ⟨q,rfl,x,y⟩
   refine sr (lv (o4 u u) (ns (y5 u (b8 (by omega)) (i8 (l4 (n9 (i7 (sr ?_))))))))
   obtain⟨o,ah,ai⟩:=ob af
   refine li underlying41 P9 (O.mono y) ah fun aj ak aJ am an=>?_
   obtain⟨G,H,I,rfl,aK,aL,ao⟩:=am
   have ap:D7 _ aj ak [sv o.Field,sv o.Term,V3 G H I]:=an
   refine lv (C9 P9 u x ap u) (al P9 x fun S aM aq=>?_)
   have ar:SH _ _ _ _ _ [r5 S [sv [],sv [],V3 none 0 0] 97,_]:=aq
   refine lw [sv o.Field,sv o.Term,V3 G H I] P9 ar fun aN J=>(ns ?_)
   obtain⟨au,aw,ax⟩:=ob ai
   refine j9 (IV w K Z q [(0,.pointer (some ⟨g1,2,none⟩)),(1,sv q1),(2,sv q2),(8,pt S),(12,V3 D k l),(13,V6 (q0.s_.Entries.length:Int)),(14,V6 ((R:Nat):Int)),(27,.bool au)] [r5 g1 [V3 A a b,V3 B c d,V3 C f i,V3 D k l] 161,r5 S [sv o.Field,sv o.Term,V3 G H I] 97]) ?_ ?_
   ·refine j3 (fl a3B u D8 m0 J u (mv u (lv (J4 u u) (mv u (bt aw (fun m T=>?_) (fun m T=>?_))))))
    ·refine lg m (c7 a2P u) (lg m (x8 D8 u m0 J u) (lg m (i4 u) (lg m (J4 u u) (lv (q8 u m u) (i5 ?_)))))
     cases oi T
     exact qd ⟨q,u,J.f1,kr⟩
    refine lu m (lu m (lu m (lu m (lv (X8 u m u) (i5 ?_)))))
    cases oi T
    exact qd ⟨q,u,J.f1,kr⟩
   rintro _ aO ⟨Y,rfl,U,aa⟩
   refine l4 (D0 ax u (fun ay V=>?_) (fun ay V=>?_))
   ·refine sr (fl X0 u a3X m1 U u (av u (nq (l7 (j4 (g6 (g6 ?_)))))))
    cases oi V
    cases ag _ u
    refine j4 (g6 ?_)
    cases oi W
    refine g6 ?_
    cases oi s
    exact ey results193 ⟨G,H,I,Y,u,U.s,(ao.mono aa)⟩
   refine i8 (q7 (qg (lv (u3 u u (x9 hi38 (b7.max O))) (mv u (i5 ?_)))))
   cases oi V
   exact qd ⟨_,u,Y,u,U.s,(y.trans aa)⟩
  rintro X _ ae az ⟨q,rfl,x,y⟩
  subst az
  refine sr (lv (o4 u u) (ns (y4 u (c6 (by omega)) (p9 (c9 (c9 (j7 ?_)))))))
  cases oi W
  exact qd ⟨_,q,u,u,x,y⟩
 rintro _ aP ⟨aQ,aA,rfl,rfl,aB,aR⟩
 have s:=D9 s
 refine qr (lv (r_n u) (nq (l7 ?_)))
 cases oi s
 exact ey results193 ⟨none,0,0,aA,u,aB,(b7.nil _ _)⟩

theorem X1 {q0:J8}{q1:l3}{q2:l3}{q3:Int}{r:(List Int)}(hS:SH w K Z w K [r5 g1 [V3 A a b,V3 B c d,V3 C f i,V3 D k l] 161])(V:b7 B3 K A a b q0.c_.Stops)(W:b7 G5 K B c d q0.c_.Syns)(X:b7 E5 K C f i q0.s_.Docs)(Y:b7 B4 K D k l q0.s_.Entries)(aa:q1.length≤maxLen)(ab:q2.length≤maxLen)(aJ:j5 q3)(hm:G1 F q0 q1 q2 q3=some r):
  Calls prog 151 #[.pointer (some ⟨g1,0,none⟩),sv q1,sv q2,V6 q3] w fun e w'=>∃a_1 n_2 c_3 K',e= .returned (V3 a_1 n_2 c_3)∧SH w K Z w' K' [r5 g1 [V3 A a b,V3 B c d,V3 C f i,V3 D k l] 161]∧b7 F2 K' a_1 n_2 c_3 r:=by
 rw [G1] at hm
 refine ci func151 u ntmps151 (sr (lv (r_n u) (Q9 (mv u (lv (u7 u) (fa a2I u (mv u (mv u ?_))))))))
 obtain⟨ac,ad,ae⟩:=ob hm
 refine lk b3o (H0 F hS.e1 V W X Y aa ab ad) ?_
 rintro aK aL ⟨af,ag,ah,y,rfl,ai,G⟩
 have aj:=(hS.c1 ai).t1
 refine lv (p7 underlying95 u G) (lv (r_m u) (nq ?_))
 obtain⟨ak,am,m⟩:=ob ae
 refine j9 (IE ak w K Z y [(0,pt g1)] [r5 g1 [V3 A a b,V3 B c d,V3 C f i,V3 D k l] 161]) ?_ ?_
 ·refine i7 ?_
  obtain⟨aM,an,R⟩:=ob am
  refine qf (fun (S:Nat) (T:Unit)=>IV w K Z y [(0,pt g1),(3,V6 q3),(16,V3 af ag ah),(17,V6 (ac.length:Int)),(18,V6 ((S:Nat):Int))] [r5 g1 [V3 A a b,V3 B c d,V3 C f i,V3 D k l] 161]) an ⟨y,u,aj,kr⟩ ?_ ?_
  ·rintro S T _ ao aN hi51 ap aq ⟨o,rfl,q,s⟩
   refine sr (lv (o4 u u) (ns (y5 u (b8 (by omega)) (i8 (l4 (n9 (i7 (sr ?_))))))))
   obtain⟨U,ar,au⟩:=ob ap
   refine li underlying95 T2 (G.mono s) ar fun aw ax aO ay az=>?_
   obtain⟨H,I,J,rfl,aP,aA⟩:=ay
   have aB:D7 _ aw ax [V6 U.Doc,V3 H I J]:=az
   refine lv (C9 T2 u q aB u) (al T2 q fun aC aQ aD=>?_)
   have aE:SH _ _ _ _ _ [r5 aC [V6 0,V3 none 0 0] 153,_]:=aD
   refine lw [V6 U.Doc,V3 H I J] T2 aE fun aR x=>(nr (fl a4J u G4 m0 x u (mv u (lv (F7 u u) (nq (D0 au u (fun aF O=>?_) (fun aF O=>?_)))))))
   ·refine sr (fl a3A u a4E m0 x u (av u (nq (l7 (j4 (g6 (g6 ?_)))))))
    cases oi O
    cases aq _ u
    refine j4 (g6 ?_)
    cases oi R
    refine g6 ?_
    cases oi m
    exact ey results151 ⟨H,I,J,o,u,x.s,aA⟩
   refine i8 (q7 (qg (lv (u3 u u (x9 hi51 (b7.max G))) (mv u (i5 ?_)))))
   cases oi O
   exact qd ⟨_,u,o,u,x.s,s⟩
  rintro T _ ao aG ⟨o,rfl,q,s⟩
  subst aG
  refine sr (lv (o4 u u) (ns (y4 u (c6 (by omega)) (p9 (c9 (c9 (j7 ?_)))))))
  cases oi R
  exact qd ⟨_,o,u,u,q,s⟩
 rintro _ aS ⟨aT,aH,rfl,rfl,aI,aU⟩
 have m:=D9 m
 refine qr (lv (r_n u) (nq (l7 ?_)))
 cases oi m
 exact ey results151 ⟨none,0,0,aH,u,aI,(b7.nil _ _)⟩

theorem a2e {q0:J8}{q1:Int}{r:u1×Bool}(hS:SH w K Z w K [r5 g1 [V3 A a b,V3 B c d,V3 C f i,V3 D k l] 161])(aU:b7 B3 K A a b q0.c_.Stops)(aV:b7 G5 K B c d q0.c_.Syns)(ad:b7 E5 K C f i q0.s_.Docs)(aW:b7 B4 K D k l q0.s_.Entries)(aX:j5 q1)(hm:I5 F q0 q1=some r):
  Calls prog 121 #[.pointer (some ⟨g1,2,none⟩),V6 q1] w fun e w'=>∃a_2 n_3 c_4 a_6 n_7 c_8 K',e= .returned (.tuple #[.agg #[V6 r.1.Id,V3 a_2 n_3 c_4,V3 a_6 n_7 c_8],.bool r.2])∧SH w K Z w' K' [r5 g1 [V3 A a b,V3 B c d,V3 C f i,V3 D k l] 161]∧j5 r.1.Id∧b7 F8 K' a_2 n_3 c_4 r.1.Fields∧b7 H5 K' a_6 n_7 c_8 r.1.Nums:=by
 rw [I5] at hm
 refine ci func121 u ntmps121 (sr (al C8 hS fun W aY ax=>?_))
 have ap:SH _ _ _ _ _ [r5 W [V6 0,V3 none 0 0,V3 none 0 0] 64,_]:=ax
 refine lv (M7 u) (Q9 (mv u (lv (u7 u) (fl a0q u a42 m1 ap u (lv (p7 underlying40 u ad) (lv (r_m u) (nq ?_)))))))
 obtain⟨ay,az,Y⟩:=ob hm
 refine j9 (fun E' w'=>∃o ae af ag ah ai aj q,ay= .inl o∧E'=[(0,.pointer (some ⟨g1,2,none⟩)),(4,pt W)]∧SH w K Z w' q [r5 g1 [V3 A a b,V3 B c d,V3 C f i,V3 D k l] 161,r5 W [V6 o.Id,V3 ae af ag,V3 ah ai aj] 64]∧H7 K q∧j5 o.Id∧b7 F8 q ae af ag o.Fields∧b7 H5 q ah ai aj o.Nums) ?_ ?_
 ·refine i7 ?_
  obtain⟨aZ,aA,aq⟩:=ob az
  refine qf (fun (ar:Nat) (s:u1) E' w'=>∃x y G H I J m,E'=[(0,.pointer (some ⟨g1,2,none⟩)),(1,V6 q1),(4,pt W),(11,V3 C f i),(12,V6 (q0.s_.Docs.length:Int)),(13,V6 ((ar:Nat):Int))]∧SH w K Z w' m [r5 g1 [V3 A a b,V3 B c d,V3 C f i,V3 D k l] 161,r5 W [V6 s.Id,V3 x y G,V3 H I J] 64]∧H7 K m∧j5 s.Id∧b7 F8 m x y G s.Fields∧b7 H5 m H I J s.Nums) aA ⟨none,0,0,none,0,0,K,u,ap.f1,kr,R3,(b7.nil _ _),(b7.nil _ _)⟩ ?_ ?_
  ·rintro ar s _ aB ba hi60 aC aD ⟨x,y,G,H,I,J,m,rfl,aa,ab,ak,am,an⟩
   refine sr (lv (o4 u u) (ns (y5 u (b8 (by omega)) (i8 (l4 (n9 (i7 (sr ?_))))))))
   obtain⟨X,aE,aF⟩:=ob aC
   refine li underlying40 C8 (ad.mono ab) aE fun aG aH bb aI aJ=>?_
   obtain⟨O,R,S,T,U,V,rfl,aK,aL,aM⟩:=aI
   have aN:D7 _ aG aH [V6 X.Id,V3 O R S,V3 T U V]:=aJ
   refine lv (C9 C8 u aa aN u) (al C8 aa fun aO bc aP=>?_)
   have aQ:SH _ _ _ _ _ [r5 aO [V6 0,V3 none 0 0,V3 none 0 0] 64,_,_]:=aP
   refine lw [V6 X.Id,V3 O R S,V3 T U V] C8 aQ fun bd ac=>(nr (fl T9 u G4 m0 ac u (mv u (lv (F7 u u) (nq (D0 aF u (fun aR ao=>?_) (fun aR ao=>?_)))))))
   ·refine sr (lv (s7 (ds:=[V6 X.Id,V3 O R S,V3 T U V]) C8 u m0 ac u u) (lw [V6 X.Id,V3 O R S,V3 T U V] C8 ac.f2 fun be au=>(lv (r_t u) (nq (l7 (j4 (g6 (g6 ?_))))))))
    cases oi ao
    cases aD _ u
    refine j4 (g6 ?_)
    cases oi aq
    refine g6 ?_
    cases oi Y
    exact O8 (vs:=[_,_]) results121 ⟨⟨_,_,u,A5 C8 (cs:=[V6 X.Id,V3 O R S,V3 T U V]) (fun j c e=>by rw [Nat.zero_add,au.mem_obj m0];exact e) (.inl ⟨u,u,u⟩)⟩,u,trivial⟩ ⟨O,R,S,T,U,V,m,u,au.s,aK,aL,aM⟩
   refine i8 (q7 (qg (lv (u3 u u (x9 hi60 (b7.max ad))) (mv u (i5 ?_)))))
   cases oi ao
   exact qd ⟨_,u,x,y,G,H,I,J,m,u,ac.s,ab,ak,am,an⟩
  rintro s _ aB aS ⟨x,y,G,H,I,J,m,rfl,aa,ab,ak,am,an⟩
  subst aS
  refine sr (lv (o4 u u) (ns (y4 u (c6 (by omega)) (p9 (c9 (c9 (j7 ?_)))))))
  cases oi aq
  exact qd ⟨_,x,y,G,H,I,J,m,u,u,aa,ab,ak,am,an⟩
 rintro _ bf ⟨o,ae,af,ag,ah,ai,aj,q,rfl,rfl,aT,bg,bh,bi,bj⟩
 have Y:=D9 Y
 refine qr (lv (C4 (cs:=#[V6 0,V3 none 0 0,V3 none 0 0]) b15 C8 u (by kernel_rfl)) (lw [V6 0,V3 none 0 0,V3 none 0 0] C8 aT.f1 fun bk aw=>(lv (M7 u) (nq (l7 ?_)))))
 cases oi Y
 exact O8 (vs:=[_,_]) results121 ⟨⟨_,_,u,A5 C8 (cs:=[V6 0,V3 none 0 0,V3 none 0 0]) (fun j c e=>by rw [Nat.zero_add,aw.mem_obj m0];exact e) (.inl ⟨u,u,u⟩)⟩,u,trivial⟩ ⟨none,0,0,none,0,0,q,u,aw.s,R3,(b7.nil _ _),(b7.nil _ _)⟩

theorem a3c {q0:Int}{r:Bool}(hS:SH w K [] w K [])(a:j5 q0)(hm:U8 F q0=some r):
  Calls prog 167 #[V6 q0] w (R_b w K r):=by
 rw [U8] at hm
 refine ci func167 u ntmps167 (sr (lv (M7 u) (nr (mv u (mv u (lv (U5 u u) (av u (nq (l7 ?_)))))))))
 cases oi hm
 exact ey results167 ⟨K,u,hS⟩

theorem a7o {q0:Int}{q1:Int}{r:Bool}(hS:SH w K [] w K [])(l:j5 q0)(m:j5 q1)(hm:R6 F q0 q1=some r):
  Calls prog 244 #[V6 q0,V6 q1] w (R_b w K r):=by
 rw [R6] at hm
 refine ci func244 u ntmps244 (sr (lv (M7 u) (nr (mv u ?_))))
 obtain⟨C,o,q⟩:=ob hm
 refine lk b7Z (a3c F hS.enter0 l o) ?_
 rintro D G ⟨s,rfl,x⟩
 have c:=(hS.c0 x).t0
 refine mv u (bt q (fun a d=>?_) (fun a d=>?_))
 ·refine lg a (i4 u) ?_
  obtain⟨H,y,A⟩:=ob d
  refine A7 (wg u u a) u (A6 (vs:=[V6 q1]) b7Z u) (a3c F c.enter0 m y) ?_
  rintro I J ⟨i,rfl,B⟩
  refine⟨_,u,?_⟩
  have k:=(c.c0 B).t0
  refine lg a (y3 u) (lv (q8 u a u) (mv u (bt A (fun b f=>?_) (fun b f=>?_))))
  ·refine lu b (lu b (lu b (lv (L1 u b u) (av u (nq (l7 ?_))))))
   cases oi f
   exact ey results244 ⟨i,u,k⟩
  refine lg b (i4 u) (lg b (i4 u) (lg b (o4 u u) (lv (m9 u b u) (av u (nq (l7 ?_))))))
  cases oi f
  exact ey results244 ⟨i,u,k⟩
 refine lu a (lu a (lu a (lv (X8 u a u) (mv u (lg u (i4 u) (lg u (i4 u) (lg u (o4 u u) (lv (m9 u u u) (av u ?_)))))))))
 refine nq (l7 ?_)
 cases oi d
 exact ey results244 ⟨s,u,c⟩

theorem a16 {q0:Int}{r:Bool}(hS:SH w K [] w K [])(a:j5 q0)(hm:O3 F q0=some r):
  Calls prog 245 #[V6 q0] w (R_b w K r):=by
 rw [O3] at hm
 refine ci func245 u ntmps245 (sr (lv (M7 u) (nr (mv u (mv u (lv (U5 u u) (av u (nq (l7 ?_)))))))))
 cases oi hm
 exact ey results245 ⟨K,u,hS⟩

theorem a2q {q0:List Int}{q1:Int}{r:Int×Bool}(hS:SH w K [] w K [])(k:b7 F2 K A a b q0)(J:j5 q1)(hm:G6 F q0 q1=some r):
  Calls prog 242 #[V3 A a b,V6 q1] w fun e w'=>∃K',e= .returned (.tuple #[V6 r.1,.bool r.2])∧SH w K [] w' K' []∧j5 r.1:=by
 rw [G6] at hm
 refine ci func242 u ntmps242 (sr (lv (R1 u) (lv (M7 u) (nr (mv u (lv (p7 underlying30 u k) (av u (nr (mv u ?_)))))))))
 refine lv (R1 u) (av u (ns ?_))
 obtain⟨O,X,Y⟩:=ob hm
 refine j9 (IW w K [] K [(0,V3 A a b),(1,V6 q1),(6,V6 (q0.length:Int)),(7,V6 O)] [] (j5 O)) ?_ ?_
 ·refine i7 ?_
  obtain⟨aX,aa,ab⟩:=ob X
  refine qw (fun (l:Int×Int)=>IW w K [] K [(0,V3 A a b),(1,V6 q1),(6,V6 (q0.length:Int)),(7,V6 l.1),(8,V6 l.2)] [] (j5 l.1∧j5 l.2)) aa ⟨K,u,hS,kr,R3,k.rn⟩ ?_
  rintro l _ aY aZ ac ad ⟨ae,rfl,m,o,R,af⟩
  refine n9 (sr (mv u (mv u (lv (o4 u u) (nq (D0 ac u (fun ag s=>?_) (fun ag s=>?_)))))))
  ·refine i8 (l4 (i7 (sr (mv u (mv u (lv (u6 u u) ?_))))))
   obtain⟨ba,x,ah⟩:=ob s
   refine lv (b8W underlying3 underlying208 u (s6 _) x) ?_
   obtain⟨bb,y,ai⟩:=ob ah
   refine lv (b7E u u y) (lv (b8Y underlying208 underlying3 u (b3S (b0C (s6 _) x).2.2 y)) (av u (nr (mv u (mv u ?_)))))
   obtain⟨aj,ak,al⟩:=ob ai
   refine li underlying30 G4 (k.mono o) ak fun am an bc ao ap=>?_
   obtain⟨rfl,aq⟩:=ao
   have ar:D7 _ am an [V6 aj]:=ap
   refine lv (z2 G4 u m (ar 0 _ u)) (mv u ?_)
   obtain⟨bd,au,aw⟩:=ob al
   refine lk b9N (a7o F m.enter0 aq J au) ?_
   rintro be bf ⟨S,rfl,B⟩
   have T:=(m.c0 B).t0
   refine nq (D0 aw u (fun ax C=>?_) (fun ax C=>?_))
   ·refine j3 (mv u (lv (u6 u u) (av u (nb ?_))))
    cases oi C
    exact qd ⟨_,u,S,u,T,(o.trans B.le),(s6 _),af⟩
   refine j3 (mv u (av u (nb ?_)))
   cases oi C
   exact qd ⟨_,u,S,u,T,(o.trans B.le),R,(b3S (b0C (s6 _) x).2.2 y)⟩
  refine p9 (c9 (c9 ?_))
  cases oi s
  cases ad _ u
  refine j7 ?_
  cases oi ab
  exact qd ⟨ae,u,m,o,R⟩
 rintro _ bg ⟨U,rfl,i,V,q⟩
 refine qr (mv u (mv u (mv u (lv (o4 u u) (mv u (bt Y (fun c D=>?_) (fun c D=>?_)))))))
 ·refine lg c (i4 u) (lg c (i4 u) ?_)
  obtain⟨ay,az,aA⟩:=ob D
  refine Q8 (t:=F2) (wg u u c) u underlying30 G4 u u (k.mono V) az fun aB aC bh aD aE=>?_
  obtain⟨rfl,bi⟩:=aD
  have aF:D7 _ aB aC [V6 ay]:=aE
  refine lg c (z2 G4 u i (aF 0 _ u)) (lg c (i4 u) (lg c (F7 u u) (lg c (i4 u) (bt aA (fun d G=>?_) (fun d G=>?_)))))
  ·iterate 6 refine lu d ?_
   refine D4 (uu u u) u (D4 (uu u u) u (lu d (lg c (L1 u d u) (lv (q8 u c u) (av u (av u (nq (l7 ?_))))))))
   cases oi G
   exact O8 (vs:=[_,_]) results242 ⟨u,u,trivial⟩ ⟨U,u,i,q⟩
  refine lg d (i4 u) (lg d (i4 u) ?_)
  obtain⟨W,aG,aH⟩:=ob G
  refine Q8 (t:=F2) (wg u u d) u underlying30 G4 u u (k.mono V) aG fun aI aJ bj aK aL=>?_
  obtain⟨rfl,aM⟩:=aK
  have aN:D7 _ aI aJ [V6 W]:=aL
  refine lg d (z2 G4 u i (aN 0 _ u)) ?_
  obtain⟨bk,aO,aP⟩:=ob aH
  refine A7 (wg u u d) u (A6 (vs:=[V6 W]) b77 u) (a16 F i.enter0 aM aO) ?_
  rintro bl bm ⟨aQ,rfl,aR⟩
  refine⟨_,u,?_⟩
  have H:=(i.c0 aR).t0
  refine lg d (i4 u) (bt aP (fun f I=>?_) (fun f I=>?_))
  ·refine lg f (i4 u) ?_
   obtain⟨bn,aS,aT⟩:=ob I
   refine A7 (wg u u f) u (A6 (vs:=[V6 q1]) b77 u) (a16 F H.enter0 J aS) ?_
   rintro bo bp ⟨aU,rfl,aV⟩
   refine⟨_,u,?_⟩
   have aW:=(H.c0 aV).t0
   refine lg d (q8 u f u) (lg c (m9 u d u) (lv (q8 u c u) (av u (av u (nq (l7 ?_))))))
   cases oi aT
   exact O8 (vs:=[_,_]) results242 ⟨u,u,trivial⟩ ⟨aU,u,aW,q⟩
  refine lu f (lu f (lg d (X8 u f u) (lg c (m9 u d u) (lv (q8 u c u) (av u (av u (nq (l7 ?_))))))))
  cases oi I
  exact O8 (vs:=[_,_]) results242 ⟨u,u,trivial⟩ ⟨aQ,u,H,q⟩
 iterate 7 refine lu c ?_
 refine D4 (uu u u) u (D4 (uu u u) u (D4 (uu u u) u (D4 (uu u u) u (D4 (uu u u) u (D4 (uu u u) u (D4 (uu u u) u (D4 (uu u u) u (D4 (uu u u) u (lu c ?_)))))))))
 refine lv (X8 u c u) (av u (av u (nq (l7 ?_))))
 cases oi D
 exact O8 (vs:=[_,_]) results242 ⟨u,u,trivial⟩ ⟨U,u,i,q⟩

theorem b0F {q0:List Int}{q1:Int}{r:Int×Bool}(hS:SH w K [] w K [])(c:b7 F2 K A a b q0)(l:j5 q1)(hm:a1L F q0 q1=some r):
  Calls prog 231 #[V3 A a b,V6 q1] w fun e w'=>∃K',e= .returned (.tuple #[V6 r.1,.bool r.2])∧SH w K [] w' K' []∧j5 r.1:=by
 rw [a1L] at hm
 refine ci func231 u ntmps231 (sr (lv (R1 u) (lv (M7 u) (nr (mv u (mv u ?_))))))
 obtain⟨J,m,o⟩:=ob hm
 refine lk b9M (a2q F hS.enter0 c l m) ?_
 rintro O R ⟨k,rfl,d,S⟩
 have f:=(hS.c0 d).t0
 refine mv u (lv (B6 u u) (lv (B6 u u) (av u (av u (Q9 (mv u (mv u (lv (p7 underlying30 u (c.mono d.le)) (lv (F7 u u) ?_)))))))))
 refine nq (D0 o u (fun q i=>?_) (fun q i=>?_))
 ·refine sr (lv (R1 u) (lv (M7 u) (nq (rr ?_))))
  cases oi i
  exact O8 (vs:=[_,_]) results231 ⟨u,u,trivial⟩ ⟨k,u,f,R3⟩
 refine i8 (qr (mv u (mv u ?_)))
 obtain⟨s,x,y⟩:=ob i
 refine li underlying30 G4 (c.mono d.le) x fun B C T D G=>?_
 obtain⟨rfl,H⟩:=D
 have I:D7 _ B C [V6 s]:=G
 refine lv (z2 G4 u f (I 0 _ u)) (av u (lv (r_t u) (nq (l7 ?_))))
 cases oi y
 exact O8 (vs:=[_,_]) results231 ⟨u,u,trivial⟩ ⟨k,u,f,H⟩
end Go.Proofs.YtpdfkjjmcnhakaaGreatDoor
