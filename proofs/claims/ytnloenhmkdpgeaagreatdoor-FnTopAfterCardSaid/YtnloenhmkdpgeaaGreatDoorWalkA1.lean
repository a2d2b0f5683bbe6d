/-
 Walks of the functions. Printed by gen.py.
-/
import Derived.Test.YtnloenhmkdpgeaaGreatDoorFacts
set_option linter.unusedVariables false
set_option linter.unusedSectionVars false
set_option maxRecDepth 100000
namespace Go.Proofs.YtnloenhmkdpgeaaGreatDoor
set_option maxHeartbeats 4000000
open Go Go.Fk Go.RowKit Tryz
variable (F:Nat){w:World}{K:F9}{Z:List Nat}{g1 g2 g3:Nat}{A B C D G H I J O R S T:Option Addr}{a b c d f i k l m n o p q s v x y aa ab ac ad ae af ag:Nat}
variable [dr:Dr]

theorem a1J {q0:T0}{q1:r4}{r:(List r4)}(hS:SH w K Z w K [s7 g1 [V3 A a b,V3 B c d,V3 C f i,V3 D k l] 113])(aS:b7 D9 K A a b q0.c_.Stops)(aT:b7 L0 K B c d q0.c_.Syns)(aU:b7 F6 K C f i q0.s_.Docs)(O:b7 B8 K D k l q0.s_.Entries)(aV:q1.length≤maxLen)(hm:J3 F q0 q1=some r):
  Calls prog 99 #[.pointer (some ⟨g1,2,none⟩),sv q1] w fun e w'=>∃a_1 n_2 c_3 K',e= .returned (V3 a_1 n_2 c_3)∧SH w K Z w' K' [tail (V3 a_1 n_2 c_3) 9 1,s7 g1 [V3 A a b,V3 B c d,V3 C f i,V3 D k l] 113]∧b7 D9 K' a_1 n_2 c_3 r:=by
 rw [J3] at hm
 refine ci func99 u ntmps99 (sr (lv (r_n u) (nr (b0 D9 underlying23 G7 hS fun af aW V R ag Y=>(av u (O7 (mv u (lv (B7 u) (fl M2 u a1e m1 Y u ?_)))))))))
 refine lv (q9 underlying28 u (O.mono R)) (lv (r_m u) (nq ?_))
 obtain⟨ah,ai,aj⟩:=ob hm
 refine l4 (fun E' w'=>∃y G H I,E'=[(0,.pointer (some ⟨g1,2,none⟩)),(5,V3 y G H)]∧SH w K Z w' I [s7 g1 [V3 A a b,V3 B c d,V3 C f i,V3 D k l] 113,tail (V3 y G H) 9 1]∧M0 V I∧b7 D9 I y G H ah) ?_ ?_
 ·refine j7 ?_
  obtain⟨aX,ak,am⟩:=ob ai
  refine qF (fun (aa:Nat) (W:(List r4)) E' w'=>∃m o q s,E'=[(0,.pointer (some ⟨g1,2,none⟩)),(1,sv q1),(5,V3 m o q),(12,V3 D k l),(13,V6 (q0.s_.Entries.length:Int)),(14,V6 ((aa:Nat):Int))]∧SH w K Z w' s [s7 g1 [V3 A a b,V3 B c d,V3 C f i,V3 D k l] 113,tail (V3 m o q) 9 1]∧M0 V s∧b7 D9 s m o q W) ak ⟨af,0,0,V,u,Y.f1,kr,ag⟩ ?_ ?_
  ·rintro aa W _ an aY hi51 ao ⟨m,o,q,s,rfl,S,J,T⟩
   refine sr (lv (u7 u u) (ns (C9 u (b8 (by omega)) (j3 (l5 (o4 (j7 (sr ?_))))))))
   obtain⟨x,ap,aq⟩:=ob ao
   refine li underlying28 P2 (O.mono (R.trans J)) ap fun ar au aZ aw ax=>?_
   obtain⟨ab,ac,ad,rfl,ba,ay,bb⟩:=aw
   have az:F1 _ ar au [sv x.Field,sv x.Term,V3 ab ac ad]:=ax
   refine lv (F3 P2 u S az u) (al P2 S fun aA bc aB=>?_)
   have aC:SH _ _ _ _ _ [s7 aA [sv [],sv [],V3 none 0 0] 99,_,_]:=aB
   refine lw [sv x.Field,sv x.Term,V3 ab ac ad] P2 aC fun bd U=>(nr (fl a3z u G7 m0 U u (mv u (lv (J8 u u) (nq (D5 aq u (fun aD X=>?_) (fun aD X=>?_)))))))
   ·refine j5 (mv u (fl a21 u G7 m0 U u (lb D9 (sv x.Term) [sv x.Term] x.Term underlying23 G7 ⟨u,ay⟩ U fun be bf bg ae aE aF=>?_)))
    obtain⟨bh,aG,aH⟩:=ob X
    refine lp underlying23 G7 (T.mono ae) aE aG aF.f3 fun aI aJ aK bi aL aM aN aO=>(av u (nb (qg (lv (B6 u u (C6 hi51 (b7.max (O.mono R)))) (mv u (i8 ?_))))))
    cases oi aH
    exact qd ⟨aI,aJ,aK,aL,u,aO.f3.s,((J.trans ae).trans aM),aN⟩
   refine j3 (x8 (qg (lv (B6 u u (C6 hi51 (b7.max (O.mono R)))) (mv u (i8 ?_)))))
   cases oi X
   exact qd ⟨m,o,q,s,u,U.s,J,T⟩
  rintro W _ an aP ⟨m,o,q,s,rfl,S,J,T⟩
  subst aP
  refine sr (lv (u7 u u) (ns (C8 u (c6 (by omega)) (y4 (g8 (g8 (l6 ?_)))))))
  cases oi am
  exact qd ⟨m,o,q,s,u,S,J,T⟩
 rintro _ bj ⟨y,G,H,I,rfl,aQ,bk,aR⟩
 refine qr (mv u (av u (nq (j9 ?_))))
 cases oi aj
 exact ey results99 ⟨y,G,H,I,u,aQ.f1,aR⟩

theorem a6G {q0:List r4}{q1:r4}{r:Bool}(hS:SH w K [] w K [])(o:b7 D9 K A a b q0)(X:q1.length≤maxLen)(hm:a1Q F q0 q1=some r):
  Calls prog 89 #[V3 A a b,sv q1] w (R_b w K r):=by
 rw [a1Q] at hm
 refine ci func89 u ntmps89 (sr (lv (O6 u) (O7 (lv (N2 u) (nq ?_)))))
 obtain⟨x,y,c⟩:=ob hm
 refine l4 (IE x w K [] K [] []) ?_ ?_
 ·refine j7 ?_
  obtain⟨Y,B,q⟩:=ob y
  refine qw (fun (i:Int)=>IW w K [] K [(0,V3 A a b),(1,sv q1),(5,V6 i)] [] (i7 i)) B ⟨K,u,hS,kr,I5⟩ ?_
  rintro i _ aa ab C s ⟨k,rfl,d,f,ac⟩
  refine o4 (sr (mv u (mv u (lv (q9 underlying23 u (o.mono f)) (lv (u7 u u) (nq (D5 C u (fun D l=>?_) (fun D l=>?_))))))))
  ·refine j3 (qs (j7 (sr (mv u (mv u ?_)))))
   obtain⟨G,H,I⟩:=ob l
   refine li underlying23 G7 (o.mono f) H fun J O ad R S=>?_
   obtain⟨rfl,ae⟩:=R
   have T:F1 _ J O [sv G]:=S
   refine lv (y9 G7 u d (T 0 _ u)) (mv u (lv (J8 u u) (nq (D5 I u (fun U m=>?_) (fun U m=>?_)))))
   ·refine sr (lv (r_t u) (nq (j9 (i9 (c9 (c9 ?_))))))
    cases oi m
    cases s _ u
    refine i9 (c9 ?_)
    cases oi q
    refine c9 ?_
    cases oi c
    exact ey results89 ⟨k,u,d⟩
   refine j3 (x8 (l5 (j5 (mv u (lv (y7 u u) (av u (i8 ?_)))))))
   cases oi m
   exact qd ⟨_,u,k,u,d,f,(u0 _)⟩
  refine y4 (g8 (g8 ?_))
  cases oi l
  cases s _ u
  refine l6 ?_
  cases oi q
  exact L6 ⟨_,k,u,u,d,f⟩ trivial
 rintro _ af ⟨s9,V,rfl,rfl,W,ah⟩
 have c:=E9 c
 refine qr (lv (O6 u) (nq (j9 ?_)))
 cases oi c
 exact ey results89 ⟨V,u,W⟩

theorem a8z {r:(List r4)}(hS:SH w K [] w K [])(hm:a3K F=some r):
  Calls prog 229 #[] w fun e w'=>∃a_1 n_2 c_3 K',e= .returned (V3 a_1 n_2 c_3)∧SH w K [] w' K' [tail (V3 a_1 n_2 c_3) 9 1]∧b7 D9 K' a_1 n_2 c_3 r:=by
 rw [a3K] at hm
 refine ci func229 u ntmps229 (sr (lv (r_n u) (nr (bw [[105,110,103],[101,100],[101,115],[108,121],[115]] underlying23 G7 hS fun a f b i c d=>(av u (nq (j9 ?_)))))))
 cases oi hm
 exact ey results229 ⟨a,5,5,b,u,d,c⟩

theorem a8A {q0:r4}{r:r4}(hS:SH w K [] w K [])(q:q0.length≤maxLen)(hm:Z8 F q0=some r):
  Calls prog 196 #[sv q0] w fun e w'=>∃K',e= .returned (sv r)∧SH w K [] w' K' []∧r.length≤maxLen:=by
 rw [Z8] at hm
 refine ci func196 u ntmps196 (sr (lv (r_s u) (O7 (lv (N2 u) (nq ?_)))))
 obtain⟨I,J,b⟩:=ob hm
 refine l4 (IE I w K [] K [(0,sv q0)] []) ?_ ?_
 ·refine j7 ?_
  obtain⟨au,O,s⟩:=ob J
  refine qw (fun (c:Int)=>IW w K [] K [(0,sv q0),(3,V6 c)] [] (i7 c)) O ⟨K,u,hS,kr,I5⟩ ?_
  rintro c _ aw ax R x ⟨ay,rfl,y,A,az⟩
  refine o4 (sr (mv u ?_))
  obtain⟨aA,S,T⟩:=ob R
  refine lk c35 (a8z F y.enter0 S) ?_
  rintro aB aC ⟨aD,aE,aF,U,rfl,d,V⟩
  have f:=(y.c0 d).t1
  refine lv (q9 underlying23 u V) (lv (u7 u u) (nq (D5 T u (fun W i=>?_) (fun W i=>?_))))
  ·refine j3 (qs (j7 (sr ?_)))
   obtain⟨aG,X,Y⟩:=ob i
   refine lk c35 (a8z F f.enter0 X) ?_
   rintro aH aI ⟨aJ,aK,aL,k,rfl,B,aa⟩
   have l:=(f.c0 B).t2
   refine mv u ?_
   obtain⟨C,ab,ac⟩:=ob Y
   refine li underlying23 G7 aa ab fun ad ae aM af ag=>?_
   obtain⟨rfl,aN⟩:=af
   have ah:F1 _ ad ae [sv C]:=ag
   refine lv (y9 G7 u l (ah 0 _ u)) (av u (nr (mv u (lv (J9 underlying9 u) (mv u (lv (J9 underlying9 u) (lv (I6 u u) (av u (ns ?_)))))))))
   obtain⟨ai,aj,ak⟩:=ob ac
   refine l4 (IV w K [] k [(0,sv q0),(3,V6 c),(5,V6 (z8 ((q0.length:Int)-(C.length:Int)))),(29,.bool ai)] []) ?_ ?_
   ·refine j5 (mv u (lv (a3B u u) (mv u (bt aj (fun a m=>?_) (fun a m=>?_)))))
    ·refine lg a (i5 u) (lg a (i5 u) ?_)
     obtain⟨aO,al,am⟩:=ob m
     refine lg a (a00 underlying9 u u al) (lg a (i5 u) (lg a (J8 u u) (lv (n9 u a u) (i8 ?_))))
     cases oi am
     exact qd ⟨k,u,l.s,kr⟩
    iterate 5 refine lu a ?_
    refine lv (L8 u a u) (i8 ?_)
    cases oi m
    exact qd ⟨k,u,l.s,kr⟩
   rintro _ aP ⟨D,rfl,G,an⟩
   refine l5 (D5 ak u (fun ao o=>?_) (fun ao o=>?_))
   ·refine sr (mv u (mv u ?_))
    obtain⟨aQ,H,ap⟩:=ob o
    refine lv (b7u underlying9 u u H) (av u (nq (j9 (i9 (c9 (c9 ?_))))))
    cases oi ap
    cases x _ u
    refine i9 (c9 ?_)
    cases oi s
    refine c9 ?_
    cases oi b
    exact ey results196 ⟨D,u,G,(a1V q H)⟩
   refine j3 (x8 (l5 (j5 (mv u (lv (y7 u u) (av u (i8 ?_)))))))
   cases oi o
   exact qd ⟨_,u,D,u,G,(((A.trans d.le).trans B.le).trans an),(u0 _)⟩
  refine y4 (g8 (g8 ?_))
  cases oi i
  cases x _ u
  refine l6 ?_
  cases oi s
  exact qd ⟨_,U,u,u,f.s,(A.trans d.le)⟩
 rintro _ w9 ⟨s5,K6,rfl,rfl,ar,aT⟩
 have b:=E9 b
 refine qr (mv u (av u (nq (j9 ?_))))
 cases oi b
 exact ey results196 ⟨K6,u,ar,q⟩

theorem a28 {q0:r4}{r:r4}(hS:SH w K [] w K [])(o:q0.length≤maxLen)(hm:a07 F q0=some r):
  Calls prog 158 #[sv q0] w fun e w'=>∃K',e= .returned (sv r)∧SH w K [] w' K' []∧r.length≤maxLen:=by
 rw [a07] at hm
 refine ci func158 u ntmps158 (sr (lv (r_s u) (ns ?_)))
 obtain⟨i,q,s⟩:=ob hm
 refine l4 (IW w K [] K [(0,sv i)] [] (i.length≤maxLen)) ?_ ?_
 ·refine j7 ?_
  obtain⟨W,x,y⟩:=ob q
  refine qw (fun (a:r4)=>IW w K [] K [(0,sv a)] [] (a.length≤maxLen)) x ⟨K,u,hS,kr,o⟩ ?_
  rintro a _ X Y A B ⟨aa,rfl,k,l,b⟩
  refine o4 (sr (mv u ?_))
  obtain⟨ab,C,D⟩:=ob A
  refine lk c3Z (a8A F k.enter0 b C) ?_
  rintro ac ad ⟨G,rfl,c,ae⟩
  have d:=(k.c0 c).t0
  refine mv u (lv (a2C u u) (nq (D5 D u (fun H f=>?_) (fun H f=>?_))))
  ·refine j3 (l5 (j7 (j5 (mv u ?_))))
   obtain⟨af,I,J⟩:=ob f
   refine lk c3Z (a8A F d.enter0 b I) ?_
   rintro ag ah ⟨O,rfl,m,R⟩
   have S:=(d.c0 m).t0
   refine av u (nb ?_)
   cases oi J
   exact qd ⟨_,u,O,u,S,((l.trans c.le).trans m.le),R⟩
  refine y4 (g8 (g8 ?_))
  cases oi f
  cases B _ u
  refine l6 ?_
  cases oi y
  exact qd ⟨G,u,d,(l.trans c.le),b⟩
 rintro _ w7 ⟨T,rfl,U,aj,V⟩
 refine qr (mv u (av u (nq (j9 ?_))))
 cases oi s
 exact ey results158 ⟨T,u,U,V⟩

theorem a57 {q0:UInt8}{r:UInt8}(hS:SH w K [] w K [])(hm:V7 F q0=some r):
  Calls prog 139 #[s4 q0] w fun e w'=>∃K',e= .returned (s4 r)∧SH w K [] w' K' []:=by
 rw [V7] at hm
 refine ci func139 u ntmps139 (sr (lv (u9 (v:=s4 0) u) (ns (j7 (o4 ?_)))))
 obtain⟨D,G,H⟩:=ob hm
 refine l4 (IV w K [] K [(0,s4 q0),(3,.bool D)] []) ?_ ?_
 ·refine j5 (mv u (lv (a8F (b:=(65:UInt8)) u u) (mv u (bt G (fun c m=>?_) (fun c m=>?_)))))
  ·refine lg c (i5 u) (lg c (a8G (b:=(90:UInt8)) u u) (lv (n9 u c u) (av u (i8 ?_))))
   cases oi m
   exact qd ⟨K,u,hS,kr⟩
  refine lu c (lu c (lv (L8 u c u) (av u (i8 ?_))))
  cases oi m
  exact qd ⟨K,u,hS,kr⟩
 rintro _ T ⟨d,rfl,l,U⟩
 refine l5 (D5 H u (fun I o=>?_) (fun I o=>?_))
 ·refine sr (mv u (lv (b9w (b:=(32:UInt8)) u u) (av u (nq (j9 (i9 (c9 ?_)))))))
  cases oi o
  exact ey results139 ⟨d,u,l⟩
 refine o4 ?_
 obtain⟨J,O,R⟩:=ob o
 refine l4 (IV w K [] d [(0,s4 q0),(12,.bool J)] []) ?_ ?_
 ·refine j5 (mv u (lv (a8F (b:=(97:UInt8)) u u) (mv u (bt O (fun f q=>?_) (fun f q=>?_)))))
  ·refine lg f (i5 u) (lg f (a8G (b:=(122:UInt8)) u u) (lv (n9 u f u) (mv u (bt q (fun a s=>?_) (fun a s=>?_)))))
   ·refine lu a (lu a (lu a (A8 (uu u u) u (A8 (uu u u) u (lu a (lv (J6 u a u) (av u (i8 ?_))))))))
    cases oi s
    exact qd ⟨d,u,l,kr⟩
   refine lg a (i5 u) (lg a (a8F (b:=(48:UInt8)) u u) (lg a (i5 u) (bt s (fun i x=>?_) (fun i x=>?_))))
   ·refine lg i (i5 u) (lg i (a8G (b:=(57:UInt8)) u u) (lg a (n9 u i u) (lv (l9 u a u) (av u (i8 ?_)))))
    cases oi x
    exact qd ⟨d,u,l,kr⟩
   refine lu i (lu i (lg a (L8 u i u) (lv (l9 u a u) (av u (i8 ?_)))))
   cases oi x
   exact qd ⟨d,u,l,kr⟩
  refine lu f (lu f (lv (L8 u f u) (mv u (lg u (i5 u) (lg u (a8F (b:=(48:UInt8)) u u) (lg u (i5 u) (bt q (fun k y=>?_) (fun k y=>?_))))))))
  ·refine lg k (i5 u) (lg k (a8G (b:=(57:UInt8)) u u) (lg u (n9 u k u) (lv (l9 u u u) (av u (i8 ?_)))))
   cases oi y
   exact qd ⟨d,u,l,kr⟩
  refine lu k (lu k (lg u (L8 u k u) (lv (l9 u u u) (av u (i8 ?_)))))
  cases oi y
  exact qd ⟨d,u,l,kr⟩
 rintro _ V ⟨B,rfl,C,W⟩
 refine l5 (D5 R u (fun S A=>?_) (fun S A=>?_))
 ·refine sr (mv u (av u (nq (j9 (i9 (c9 ?_))))))
  cases oi A
  exact ey results139 ⟨B,u,C⟩
 refine j3 (x8 (qr (lv (u9 (v:=s4 0) u) (nq (j9 ?_)))))
 cases oi A
 exact ey results139 ⟨B,u,C⟩

theorem b2K {q0:r4}{r:(List a0g)}(hS:SH w K [] w K [])(bY:q0.length≤maxLen)(hm:a2Q F q0=some r):
  Calls prog 213 #[sv q0] w fun e w'=>∃a_1 n_2 c_3 K',e= .returned (V3 a_1 n_2 c_3)∧SH w K [] w' K' [tail (V3 a_1 n_2 c_3) 160 4]∧b7 a6K K' a_1 n_2 c_3 r:=by
 rw [a2Q] at hm
 refine ci func213 u ntmps213 (sr (lv (r_n u) (nr (b0 a6K underlying157 a4I hS fun a2 w3 W ca aB aC=>(av u (O7 (lv (N2 u) (nq ?_))))))))
 obtain⟨o8,h9,aF⟩:=ob hm
 refine l4 (fun E' w'=>∃B C D G,E'=[(3,V3 B C D)]∧SH w K [] w' G [tail (V3 B C D) 160 4]∧M0 W G∧b7 a6K G B C D o8) ?_ ?_
 ·refine j7 ?_
  obtain⟨cb,aG,aH⟩:=ob h9
  refine qw (fun (a:(List a0g)×Int) E' w'=>∃c d f H,E'=[(0,sv q0),(3,V3 c d f),(4,V6 a.2)]∧SH w K [] w' H [tail (V3 c d f) 160 4]∧M0 W H∧b7 a6K H c d f a.1∧i7 a.2) aG ⟨a2,0,0,W,u,aC,kr,aB,I5⟩ ?_
  rintro a _ cc cd aI aJ ⟨c,d,f,H,rfl,ap,X,I,aq⟩
  refine o4 (sr (mv u (mv u (lv (J9 underlying9 u) (lv (u7 u u) (nq (D5 aI u (fun aK Y=>?_) (fun aK Y=>?_))))))))
  ·refine j3 (qs (j7 (sr (b0 W8 underlying22 tf5 ap fun aL ce aa s aM aN=>(av u (nr (mv u (av u (ns ?_)))))))))
   obtain⟨k,aO,aP⟩:=ob Y
   refine l4 (fun E' w'=>∃J O R l,E'=[(0,sv q0),(3,V3 c d f),(4,V6 k.1),(5,V3 J O R),(6,V6 a.2)]∧SH w K [] w' l [tail (V3 c d f) 160 4,tail (V3 J O R) 5 1]∧M0 aa l∧i7 k.1∧b7 W8 l J O R k.2) ?_ ?_
   ·refine j7 ?_
    obtain⟨cf,aQ,aR⟩:=ob aO
    refine qw (fun (S:Int×(List UInt8)) E' w'=>∃m o q x,E'=[(0,sv q0),(3,V3 c d f),(4,V6 S.1),(5,V3 m o q),(6,V6 a.2)]∧SH w K [] w' x [tail (V3 c d f) 160 4,tail (V3 m o q) 5 1]∧M0 aa x∧i7 S.1∧b7 W8 x m o q S.2) aQ ⟨aL,0,0,aa,u,aN.f1,kr,aq,aM⟩ ?_
    rintro S _ cg ch aS aT ⟨m,o,q,x,rfl,ab,ar,aU,au⟩
    refine o4 (o4 ?_)
    obtain⟨aV,aW,aX⟩:=ob aS
    refine l4 (IV w K [] x [(0,sv q0),(3,V3 c d f),(4,V6 S.1),(5,V3 m o q),(6,V6 a.2),(26,.bool aV)] [tail (V3 c d f) 160 4,tail (V3 m o q) 5 1]) ?_ ?_
    ·refine j5 (mv u (mv u (lv (J9 underlying9 u) (lv (u7 u u) (mv u (bt aW (fun i ac=>?_) (fun i ac=>?_)))))))
     ·refine lg i (i5 u) (lg i (i5 u) ?_)
      obtain⟨aY,aZ,ba⟩:=ob ac
      refine lg i (N9 underlying9 u u aZ) ?_
      obtain⟨cj,bb,bc⟩:=ob ba
      refine A3 (wg u u i) u (A2 (vs:=[s4 aY]) c1z u) (a57 F ab.enter0 bb) ?_
      rintro ck cl ⟨bd,rfl,aw⟩
      refine⟨_,u,?_⟩
      have be:=(ab.c0 aw).t2
      refine lg i (a8H (b:=(0:UInt8)) u u) (lv (n9 u i u) (i8 ?_))
      cases oi bc
      exact qd ⟨bd,u,be,aw.le⟩
     iterate 5 refine lu i ?_
     refine lv (L8 u i u) (i8 ?_)
     cases oi ac
     exact qd ⟨x,u,ab,kr⟩
    rintro _ cm ⟨bf,rfl,ad,V⟩
    refine l5 (D5 aX u (fun bg ae=>?_) (fun bg ae=>?_))
    ·refine j3 (l5 (j7 (sr (mv u (mv u (mv u ?_))))))
     obtain⟨cn,bh,bi⟩:=ob ae
     refine lv (N9 underlying9 u u bh) ?_
     obtain⟨af,bj,bk⟩:=ob bi
     refine lk c1z (a57 F ad.enter0 bj) ?_
     rintro cp cq ⟨cr,rfl,ag⟩
     have bl:=(ad.c0 ag).t2
     refine lb W8 (s4 af) [s4 af] af underlying22 tf5 u bl fun ct cu cv ax bm bn=>?_
     obtain⟨cw,bo,bp⟩:=ob bk
     refine lp underlying22 tf5 (au.mono ((V.trans ag.le).trans ax)) bm bo bn.f2 fun bq br bs cx bu bv bx bz=>(av u (nq (j5 (mv u (lv (y7 u u) (av u (nb ?_)))))))
     cases oi bp
     exact qd ⟨_,u,bq,br,bs,bu,u,bz.f2.s,((((ar.trans V).trans ag.le).trans ax).trans bv),(u0 _),bx⟩
    refine y4 (g8 (g8 ?_))
    cases oi ae
    cases aT _ u
    refine l6 ?_
    cases oi aR
    exact qd ⟨m,o,q,bf,u,ad,(ar.trans V),aU,(au.mono V)⟩
   rintro _ cy ⟨J,O,R,l,rfl,ay,y,bA,ah⟩
   refine qs (sr (mv u (lv (q9 underlying22 u ah) (lv (E7 u u) (nq ?_)))))
   obtain⟨T,bB,bC⟩:=ob aP
   refine l4 (fun E' w'=>∃ai aj ak U,E'=[(0,sv q0),(3,V3 c d f),(4,V6 k.1),(5,V3 ai aj ak),(6,V6 a.2)]∧SH w K [] w' U [tail (V3 c d f) 160 4]∧M0 l U∧b7 W8 U ai aj ak T) ?_ ?_
   ·refine D5 bB u (fun bD al=>?_) (fun bD al=>?_)
    ·refine j5 (mv u ?_)
     obtain⟨cz,bE,bF⟩:=ob al
     refine a7z (t:=W8) wn u underlying22 tf5 u u ah bE fun bG bH bI bJ=>(av u (i8 ?_))
     cases oi bF
     exact qd ⟨bG,bH,bI,l,u,ay.s,kr,bJ⟩
    refine j3 ?_
    cases oi al
    exact qd ⟨J,O,R,l,u,ay.s,kr,ah⟩
   rintro _ cA ⟨ai,aj,ak,U,rfl,am,A,an⟩
   refine qr (mv u (lv (q9 underlying22 u an) (lv (E7 u u) (nq (D5 bC u (fun bK ao=>?_) (fun bK ao=>?_))))))
   ·refine j5 (mv u (mv u (lv (c2c underlying22 underlying5 underlying9 u an am) (mv u (lv (q9 underlying157 u (I.mono ((s.trans y).trans A))) (mv u (mv u (lv (C3 (cs:=#[sv T,V6 (a.1.length:Int),V6 a.2,V6 k.1]) c4m a4I u (by kernel_rfl)) (lb a6K (.agg #[sv T,V6 (a.1.length:Int),V6 a.2,V6 k.1]) [sv T,V6 (a.1.length:Int),V6 a.2,V6 k.1] (a0g.mk T (a.1.length:Int) a.2 k.1) underlying157 a4I ⟨u,(b7.max an),(a0Z (b7.max (I.mono ((s.trans y).trans A)))),aq,bA⟩ am fun cB cC cD az bL bM=>?_)))))))))
    obtain⟨cE,bN,bO⟩:=ob ao
    refine lp underlying157 a4I (b7.mono (((s.trans y).trans A).trans az) I) bL bN bM.f1 fun bP bQ bR cF bS bT bU bV=>(av u (nb (l5 (j5 (mv u (lv (y7 u u) (av u (i8 ?_))))))))
    cases oi bO
    exact qd ⟨_,u,bP,bQ,bR,bS,u,bV.s,(((((X.trans s).trans y).trans A).trans az).trans bT),bU,(u0 _)⟩
   refine j3 (x8 (l5 (j5 (mv u (lv (y7 u u) (av u (i8 ?_)))))))
   cases oi ao
   exact qd ⟨_,u,c,d,f,U,u,am,(((X.trans s).trans y).trans A),(I.mono ((s.trans y).trans A)),(u0 _)⟩
  refine y4 (g8 (g8 ?_))
  cases oi Y
  cases aJ _ u
  refine l6 ?_
  cases oi aH
  exact qd ⟨c,d,f,H,u,ap,X,I⟩
 rintro _ cG ⟨B,C,D,G,rfl,bW,cH,bX⟩
 refine qr (mv u (av u (nq (j9 ?_))))
 cases oi aF
 exact ey results213 ⟨B,C,D,G,u,bW,bX⟩

theorem b2L {q0:u6}{q1:r4}{r:(List D3)}(hS:SH w K [] w K [])(ac:b7 D9 K A a b q0.Stops)(bQ:b7 L0 K B c d q0.Syns)(ak:q1.length≤maxLen)(hm:a2R F q0 q1=some r):
  Calls prog 179 #[.agg #[V3 A a b,V3 B c d],sv q1] w fun e w'=>∃a_1 n_2 c_3 K',e= .returned (V3 a_1 n_2 c_3)∧SH w K [] w' K' [tail (V3 a_1 n_2 c_3) 107 2]∧b7 S3 K' a_1 n_2 c_3 r:=by
 rw [a2R] at hm
 refine ci func179 u ntmps179 (sr (bx u hS fun s bR al=>?_))
 have am:SH _ _ _ _ _ [s7 s [V3 A a b,V3 B c d] 26]:=al
 refine lv (r_n u) (nr (b0 S3 underlying104 M3 am fun an bS bT ad ao ae=>(av u (nr (mv u ?_)))))
 obtain⟨bU,ap,aq⟩:=ob hm
 refine lk c6o (b2K F ae.enter0 ak ap) ?_
 rintro bV bW ⟨af,ag,ah,V,rfl,O,R⟩
 have ar:=(ae.c0 O).t3
 refine av u (O7 (lv (N2 u) (nq ?_)))
 obtain⟨au,aw,ax⟩:=ob aq
 refine l4 (fun E' w'=>∃x y C D,E'=[(5,V3 x y C)]∧SH w K [] w' D [tail (V3 x y C) 107 2]∧M0 V D∧b7 S3 D x y C au) ?_ ?_
 ·refine j7 ?_
  obtain⟨bX,ay,az⟩:=ob aw
  have aA:=ar.f1.f2.sb (sk (sk (sd sz)))
  refine qw (fun (G:(List D3)×Int) E' w'=>∃l m o H,E'=[(2,pt s),(5,V3 l m o),(6,V3 af ag ah),(7,V6 G.2)]∧SH w K [] w' H [s7 s [V3 A a b,V3 B c d] 26,tail (V3 l m o) 107 2]∧M0 V H∧b7 S3 H l m o G.1∧i7 G.2) ay ⟨an,0,0,V,u,aA,kr,(ao.mono O.le),I5⟩ ?_
  rintro G _ bY bZ aB aC ⟨l,m,o,H,rfl,S,f,W,ca⟩
  refine o4 (sr (mv u (mv u (lv (q9 underlying157 u (R.mono f)) (lv (u7 u u) (nq (D5 aB u (fun aD X=>?_) (fun aD X=>?_))))))))
  ·refine j3 (qs (j7 (sr (mv u (mv u ?_)))))
   obtain⟨T,aE,aF⟩:=ob X
   refine li underlying157 a4I (R.mono f) aE fun aG aH cb aI aJ=>?_
   obtain⟨rfl,aK,cc,cd,ce⟩:=aI
   have aL:F1 _ aG aH [sv T.Text,V6 T.At,V6 T.From,V6 T.To]:=aJ
   refine fa b0o u (lv (y9 G7 u S (aL 0 _ u)) ?_)
   obtain⟨I,aM,aN⟩:=ob aF
   refine lk c1A (a28 F S.enter0 aK aM) ?_
   rintro cf cg ⟨aO,rfl,i,ai⟩
   have aP:=(S.c0 i).t2
   refine av u (ns ?_)
   obtain⟨aQ,aR,aS⟩:=ob aN
   refine l4 (IV w K [] aO [(2,pt s),(5,V3 l m o),(6,V3 af ag ah),(7,V6 G.2),(8,sv I),(39,.bool aQ)] [s7 s [V3 A a b,V3 B c d] 26,tail (V3 l m o) 107 2]) ?_ ?_
   ·refine D4 mixed (by kernel_rfl) aP (kv (c7 a34 u) (kh (z6 W1 u m0 u) (km u (km u ?_))))
    obtain⟨U,aT,aU⟩:=ob aR
    refine ki underlying157 a4I (R.mono (f.trans i.le)) aT fun aV aW ch aX aY=>?_
    obtain⟨rfl,aZ,cj,ck,cl⟩:=aX
    have ba:F1 _ aV aW [sv U.Text,V6 U.At,V6 U.From,V6 U.To]:=aY
    refine kv (c7 b0o u) (kh (C1 G7 u (ba 0 _ u)) ?_)
    obtain⟨cm,bb,bc⟩:=ob aU
    refine kc c4D (fun _ _ bd be=>(a6G F) bd.enter0 (b7.mono ((((ad.trans O.le).trans f).trans i.le).trans be) ac) aZ bb) (kv (A4 u) (km u (bt bc (fun k Y=>?_) (fun k Y=>?_))))
    ·refine kg k (c7 a34 u) (r5 k (z6 W1 u m0 u) (kg k (i5 u) ?_))
     obtain⟨cn,bf,bg⟩:=ob Y
     refine kcg k c4D (fun _ _ bh bi=>(a6G F) bh.enter0 (b7.mono ((((ad.trans O.le).trans f).trans i.le).trans bi) ac) ai bf) (kg k (A4 u) (kv (n9 u k u) (B4 ?_)))
     rintro cp ⟨bj,bk,bl⟩
     cases oi bg
     exact qd ⟨bj,u,bk,bl⟩
    iterate 5 refine kn k ?_
    refine kv (L8 u k u) (B4 ?_)
    rintro cq ⟨bm,bn,bo⟩
    cases oi Y
    exact qd ⟨bm,u,bn,bo⟩
   rintro _ cr ⟨bp,rfl,aa,J⟩
   refine l5 (D5 aS u (fun bq ab=>?_) (fun bq ab=>?_))
   ·refine j5 (mv u (mv u (mv u (mv u ?_))))
    obtain⟨q,br,bs⟩:=ob ab
    refine li underlying157 a4I (R.mono ((f.trans i.le).trans J)) br fun bu bv ct bz bA=>?_
    obtain⟨rfl,cu,bB,cv,cw⟩:=bz
    have bC:F1 _ bu bv [sv q.Text,V6 q.At,V6 q.From,V6 q.To]:=bA
    refine fa b83 u (lv (y9 E6 u aa (bC 1 _ u)) (lv (C3 (cs:=#[sv I,V6 q.At]) b9E M3 u (by kernel_rfl)) (lb S3 (.agg #[sv I,V6 q.At]) [sv I,V6 q.At] (D3.mk I q.At) underlying104 M3 ⟨u,ai,bB⟩ aa fun cx cy cz aj bD bE=>?_)))
    obtain⟨cA,bF,bG⟩:=ob bs
    refine lp underlying104 M3 (W.mono ((i.le.trans J).trans aj)) bD bF bE.f2 fun bH bI bJ cB bK bL bM bN=>(av u (nb (l5 (j5 (mv u (lv (y7 u u) (av u (i8 ?_))))))))
    cases oi bG
    exact qd ⟨_,u,bH,bI,bJ,bK,u,bN.f2.s,((((f.trans i.le).trans J).trans aj).trans bL),bM,(u0 _)⟩
   refine j3 (x8 (l5 (j5 (mv u (lv (y7 u u) (av u (i8 ?_)))))))
   cases oi ab
   exact qd ⟨_,u,l,m,o,bp,u,aa,((f.trans i.le).trans J),(W.mono (i.le.trans J)),(u0 _)⟩
  refine y4 (g8 (g8 ?_))
  cases oi X
  cases aC _ u
  refine l6 ?_
  cases oi az
  exact qd ⟨l,m,o,H,u,S.s,f,W⟩
 rintro _ cC ⟨x,y,C,D,rfl,bO,cD,bP⟩
 refine qr (mv u (av u (nq (j9 ?_))))
 cases oi ax
 exact ey results179 ⟨x,y,C,D,u,bO,bP⟩

theorem a7N {q0:A1}{q1:r4}{r:r4}(hS:SH w K [] w K [])(an:i7 q0.Id)(l:b7 K5 K A a b q0.Fields)(ao:b7 N0 K B c d q0.Nums)(ap:q1.length≤maxLen)(hm:a1s F q0 q1=some r):
  Calls prog 199 #[.agg #[V6 q0.Id,V3 A a b,V3 B c d],sv q1] w fun e w'=>∃K',e= .returned (sv r)∧SH w K [] w' K' []∧r.length≤maxLen:=by
 rw [a1s] at hm
 refine ci func199 u ntmps199 (sr (bx u hS fun m aq H=>?_))
 have I:SH _ _ _ _ _ [s7 m [V6 q0.Id,V3 A a b,V3 B c d] 44]:=H
 refine lv (r_s u) (O7 (lv (N2 u) (nq ?_)))
 obtain⟨J,O,k⟩:=ob hm
 refine l4 (IE J w K [] K [] []) ?_ ?_
 ·refine j7 ?_
  obtain⟨ar,R,y⟩:=ob O
  refine qw (fun (o:Int)=>IW w K [] K [(1,sv q1),(2,pt m),(5,V6 o)] [s7 m [V6 q0.Id,V3 A a b,V3 B c d] 44] (i7 o)) R ⟨K,u,I,kr,I5⟩ ?_
  rintro o _ au aw S C ⟨q,rfl,f,i,ax⟩
  refine o4 (sr (mv u (fl a1x u a7g m0 f u (lv (q9 underlying41 u (l.mono i)) (lv (u7 u u) (nq (D5 S u (fun T s=>?_) (fun T s=>?_))))))))
  ·refine j3 (qs (j7 (sr (fl a1x u a7g m0 f u (mv u ?_)))))
   obtain⟨D,U,V⟩:=ob s
   refine li underlying41 U6 (l.mono i) U fun W X ay Y aa=>?_
   obtain⟨rfl,az,aA⟩:=Y
   have ab:F1 _ W X [sv D.Name,sv D.Text]:=aa
   refine fa a5a u (lv (y9 G7 u f (ab 0 _ u)) (mv u (lv (J8 u u) (nq (D5 V u (fun ac x=>?_) (fun ac x=>?_))))))
   ·refine sr (fl a1x u a7g m0 f u (mv u ?_))
    obtain⟨G,ad,ae⟩:=ob x
    refine li underlying41 U6 (l.mono i) ad fun af ag aB ah ai=>?_
    obtain⟨rfl,aC,aj⟩:=ah
    have ak:F1 _ af ag [sv G.Name,sv G.Text]:=ai
    refine fa b0n u (lv (y9 G7 u f (ak 1 _ u)) (av u (nq (j9 (i9 (c9 (c9 ?_)))))))
    cases oi ae
    cases C _ u
    refine i9 (c9 ?_)
    cases oi y
    refine c9 ?_
    cases oi k
    exact ey results199 ⟨q,u,f.s,aj⟩
   refine j3 (x8 (l5 (j5 (mv u (lv (y7 u u) (av u (i8 ?_)))))))
   cases oi x
   exact qd ⟨_,u,q,u,f,i,(u0 _)⟩
  refine y4 (g8 (g8 ?_))
  cases oi s
  cases C _ u
  refine l6 ?_
  cases oi y
  exact L6 ⟨_,q,u,u,f.s,i⟩ trivial
 rintro _ aD ⟨aE,al,rfl,rfl,am,aF⟩
 have k:=E9 k
 refine qr (lv (r_s u) (nq (j9 ?_)))
 cases oi k
 exact ey results199 ⟨al,u,am,(by decide :([]:r4).length≤maxLen)⟩

theorem I9 {q0:Int}{q1:Int}{q2:Int}{r:Bool}(hS:SH w K [] w K [])(c:i7 q0)(d:i7 q1)(f:i7 q2)(hm:G0 F q0 q1 q2=some r):
  Calls prog 87 #[V6 q0,V6 q1,V6 q2] w (R_b w K r):=by
 rw [G0] at hm
 refine ci func87 u ntmps87 (sr (lv (O6 u) (nr (mv u (mv u (lv (a3B u u) (mv u (bt hm (fun a b=>?_) (fun a b=>?_)))))))))
 ·refine lg a (i5 u) (lg a (i5 u) (lg a (V2 u u) (lv (n9 u a u) (av u (nq (j9 ?_))))))
  cases oi b
  exact ey results87 ⟨K,u,hS⟩
 refine lu a (lu a (lu a (lv (L8 u a u) (av u (nq (j9 ?_))))))
 cases oi b
 exact ey results87 ⟨K,u,hS⟩

theorem H9 {q0:r4}{r:Bool}(hS:SH w K [] w K [])(B:q0.length≤maxLen)(hm:E5 F q0=some r):
  Calls prog 85 #[sv q0] w (R_b w K r):=by
 rw [E5] at hm
 refine ci func85 u ntmps85 (sr (lv (O6 u) (O7 (lv (N2 u) (nq ?_)))))
 obtain⟨C,D,c⟩:=ob hm
 refine l4 (IE C w K [] K [(0,sv q0)] []) ?_ ?_
 ·refine j7 ?_
  obtain⟨ap,G,l⟩:=ob D
  refine qw (fun (d:Int)=>IW w K [] K [(0,sv q0),(3,V6 d)] [] (i7 d)) G ⟨K,u,hS,kr,I5⟩ ?_
  rintro d _ aq ar H m ⟨o,rfl,q,s,au⟩
  refine o4 (sr (mv u (mv u (lv (J9 underlying9 u) (lv (u7 u u) (nq (D5 H u (fun I f=>?_) (fun I f=>?_))))))))
  ·refine j3 (qs (j7 (o4 ?_)))
   obtain⟨J,O,R⟩:=ob f
   refine l4 (IV w K [] o [(0,sv q0),(3,V6 d),(23,.bool J)] []) ?_ ?_
   ·refine D4 mixed (by kernel_rfl) q (km u (km u ?_))
    obtain⟨aw,S,T⟩:=ob O
    refine kv (N9 underlying9 u u S) ?_
    obtain⟨ax,U,V⟩:=ob T
    refine kc c1z (fun _ _ W ay=>(a57 F) W.enter0 U) (km u (km u ?_))
    obtain⟨az,X,Y⟩:=ob V
    refine kv (N9 underlying9 u u X) (kv (a8H u u) (km u (bt Y (fun a i=>?_) (fun a i=>?_))))
    ·refine kn a (kn a (kn a (kn a (kv (J6 u a u) (B4 ?_)))))
     rintro aA ⟨aa,ab,ac⟩
     cases oi i
     exact qd ⟨aa,u,ab,ac⟩
    refine kg a (i5 u) (kg a (i5 u) ?_)
    obtain⟨aB,ad,ae⟩:=ob i
    refine kg a (N9 underlying9 u u ad) (kg a (a91 (b:=(0:UInt8)) u u) (kv (l9 u a u) (B4 ?_)))
    rintro aC ⟨af,ag,ah⟩
    cases oi ae
    exact qd ⟨af,u,ag,ah⟩
   rintro _ aD ⟨x,rfl,y,ai⟩
   refine l5 (D5 R u (fun aj k=>?_) (fun aj k=>?_))
   ·refine sr (lv (O6 u) (nq (j9 (i9 (c9 (c9 ?_))))))
    cases oi k
    cases m _ u
    refine i9 (c9 ?_)
    cases oi l
    refine c9 ?_
    cases oi c
    exact ey results85 ⟨x,u,y⟩
   refine j3 (x8 (l5 (j5 (mv u (lv (y7 u u) (av u (i8 ?_)))))))
   cases oi k
   exact qd ⟨_,u,x,u,y,(s.trans ai),(u0 _)⟩
  refine y4 (g8 (g8 ?_))
  cases oi f
  cases m _ u
  refine l6 ?_
  cases oi l
  exact qd ⟨_,o,u,u,q,s⟩
 rintro _ w9 ⟨s5,K6,rfl,rfl,A,aH⟩
 have c:=E9 c
 refine qr (mv u (lv (J9 underlying9 u) ?_))
 obtain⟨aI,ak,al⟩:=ob c
 refine lk a7T (I9 F A.enter0 (a0Z B) (by decide :i7 1) (by decide :i7 12) ak) ?_
 rintro aJ aK ⟨am,rfl,an⟩
 have ao:=(A.c0 an).t0
 refine av u (nq (j9 ?_))
 cases oi al
 exact ey results85 ⟨am,u,ao⟩

theorem b0N {q0:u6}{r:Bool}(hS:SH w K [] w K [])(G:b7 D9 K A a b q0.Stops)(ae:b7 L0 K B c d q0.Syns)(hm:a35 F q0=some r):
  Calls prog 118 #[.agg #[V3 A a b,V3 B c d]] w (R_b w K r):=by
 rw [a35] at hm
 refine ci func118 u ntmps118 (sr (bx u hS fun f dV aU=>?_))
 have aV:SH _ _ _ _ _ [s7 f [V3 A a b,V3 B c d] 26]:=aU
 refine lv (O6 u) (O7 (lv (N2 u) (nq ?_)))
 obtain⟨aW,aX,W⟩:=ob hm
 refine l4 (IE aW w K [] K [(1,pt f)] [s7 f [V3 A a b,V3 B c d] 26]) ?_ ?_
 ·refine j7 ?_
  obtain⟨dW,aY,aC⟩:=ob aX
  refine qw (fun (X:Int)=>IW w K [] K [(1,pt f),(3,V6 X)] [s7 f [V3 A a b,V3 B c d] 26] (i7 X)) aY ⟨K,u,aV,kr,I5⟩ ?_
  rintro X _ dX dY aZ aD ⟨aE,rfl,af,H,dZ⟩
  refine o4 (sr (mv u (fl a34 u W1 m0 af u (lv (q9 underlying23 u (G.mono H)) (lv (u7 u u) (nq (D5 aZ u (fun ba ag=>?_) (fun ba ag=>?_))))))))
  ·refine j3 (qs (j7 (o4 ?_)))
   obtain⟨bb,bc,bd⟩:=ob ag
   refine l4 (IV w K [] aE [(1,pt f),(3,V6 X),(38,.bool bb)] [s7 f [V3 A a b,V3 B c d] 26]) ?_ ?_
   ·refine D4 mixed (by kernel_rfl) af (kv (c7 a34 u) (kh (z6 W1 u m0 u) (km u ?_)))
    obtain⟨be,bf,bg⟩:=ob bc
    refine ki underlying23 G7 (G.mono H) bf fun bh bi ea bj bk=>?_
    obtain⟨rfl,bl⟩:=bj
    have bm:F1 _ bh bi [sv be]:=bk
    refine kh (C1 G7 u (bm 0 _ u)) ?_
    obtain⟨eb,bn,bo⟩:=ob bg
    refine kc b0m (fun _ _ bp ec=>(H9 F) bp.enter0 bl bn) (kv (A4 u) (km u (bt bo (fun l ah=>?_) (fun l ah=>?_))))
    ·refine kn l (kn l (kn l ?_))
     iterate 12 refine ku ?_
     refine kn l (kv (J6 u l u) (B4 ?_))
     rintro ed ⟨bq,br,bs⟩
     cases oi ah
     exact qd ⟨bq,u,br,bs⟩
    refine kg l (i5 u) (kg l (E7 u u) (kg l (i5 u) (bt ah (fun i ai=>?_) (fun i ai=>?_))))
    ·refine kg i (c7 a34 u) (r5 i (z6 W1 u m0 u) (kg i (i5 u) ?_))
     obtain⟨bu,bv,bz⟩:=ob ai
     refine C7 (t:=D9) (wg u u i) u underlying23 G7 u u (G.mono H) bv fun bA bB ee bC bD=>?_
     obtain⟨rfl,ef⟩:=bC
     have bE:F1 _ bA bB [sv bu]:=bD
     refine r5 i (C1 G7 u (bE 0 _ u)) (kg i (c7 a34 u) (r5 i (z6 W1 u m0 u) (kg i (i5 u) (kg i (I6 u u) ?_))))
     obtain⟨bF,bG,bH⟩:=ob bz
     refine C7 (t:=D9) (wg u u i) u underlying23 G7 u u (G.mono H) bG fun bI bJ eg bK bL=>?_
     obtain⟨rfl,eh⟩:=bK
     have bM:F1 _ bI bJ [sv bF]:=bL
     refine r5 i (C1 G7 u (bM 0 _ u)) (kg i (b53 u u) (kg l (n9 u i u) (kv (l9 u l u) (B4 ?_))))
     rintro ei ⟨bN,bO,bP⟩
     cases oi bH
     exact qd ⟨bN,u,bO,bP⟩
    iterate 12 refine kn i ?_
    refine kg l (L8 u i u) (kv (l9 u l u) (B4 ?_))
    rintro ej ⟨bQ,bR,bS⟩
    cases oi ai
    exact qd ⟨bQ,u,bR,bS⟩
   rintro _ ek ⟨aF,rfl,aG,bT⟩
   refine l5 (D5 bd u (fun bU aj=>?_) (fun bU aj=>?_))
   ·refine sr (lv (O6 u) (nq (j9 (i9 (c9 (c9 ?_))))))
    cases oi aj
    cases aD _ u
    refine i9 (c9 ?_)
    cases oi aC
    refine c9 ?_
    cases oi W
    exact ey results118 ⟨aF,u,aG.s⟩
   refine j3 (x8 (l5 (j5 (mv u (lv (y7 u u) (av u (i8 ?_)))))))
   cases oi aj
   exact qd ⟨_,u,aF,u,aG,(H.trans bT),(u0 _)⟩
  refine y4 (g8 (g8 ?_))
  cases oi ag
  cases aD _ u
  refine l6 ?_
  cases oi aC
  exact qd ⟨_,aE,u,u,af,H⟩
 rintro _ el ⟨em,ak,rfl,rfl,bV,I⟩
 have W:=E9 W
 refine qs (sr (lv (N2 u) (nq ?_)))
 obtain⟨bW,bX,J⟩:=ob W
 refine l4 (IE bW w K [] ak [(1,pt f)] [s7 f [V3 A a b,V3 B c d] 26]) ?_ ?_
 ·refine j7 ?_
  obtain⟨en,bY,am⟩:=ob bX
  refine qw (fun (y:Int)=>IW w K [] ak [(1,pt f),(4,V6 y)] [s7 f [V3 A a b,V3 B c d] 26] (i7 y)) bY ⟨ak,u,bV,kr,I5⟩ ?_
  rintro y _ eo ep bZ an ⟨Y,rfl,O,R,eq⟩
  refine o4 (sr (mv u (fl a3y u a9v m0 O u (lv (q9 underlying24 u (ae.mono (I.trans R))) (lv (u7 u u) (nq (D5 bZ u (fun ca ao=>?_) (fun ca ao=>?_))))))))
  ·refine j3 (qs (j7 (sr (fl a3y u a9v m0 O u (mv u ?_)))))
   obtain⟨S,cb,cc⟩:=ob ao
   refine li underlying24 a4h (ae.mono (I.trans R)) cb fun cd ce es cf cg=>?_
   obtain⟨T,U,V,rfl,C,ap⟩:=cf
   have ch:F1 _ cd ce [V3 T U V,sv S.To]:=cg
   refine lv (F3 a4h u O ch u) (al a4h O fun D et cj=>?_)
   have ck:SH _ _ _ _ _ [s7 D [V3 none 0 0,sv []] 144,_]:=cj
   refine lw [V3 T U V,sv S.To] a4h ck fun eu cl=>(O7 (lv (N2 u) (nq ?_)))
   obtain⟨cm,cn,aa⟩:=ob cc
   refine l4 (IE cm w K [] Y [(1,pt f),(4,V6 y),(5,pt D)] [s7 f [V3 A a b,V3 B c d] 26,s7 D [V3 T U V,sv S.To] 144]) ?_ ?_
   ·refine j7 ?_
    obtain⟨ev,cp,aH⟩:=ob cn
    refine qw (fun (ab:Int)=>IW w K [] Y [(1,pt f),(4,V6 y),(5,pt D),(6,V6 ab)] [s7 f [V3 A a b,V3 B c d] 26,s7 D [V3 T U V,sv S.To] 144] (i7 ab)) cp ⟨Y,u,cl.f1,kr,I5⟩ ?_
    rintro ab _ ew ex cq aI ⟨aJ,rfl,ac,x,eA⟩
    refine o4 (sr (mv u (fl a0R u W1 m1 ac u (lv (q9 underlying23 u (C.mono x)) (lv (u7 u u) (nq (D5 cq u (fun cr aq=>?_) (fun cr aq=>?_))))))))
    ·refine j3 (qs (j7 (o4 ?_)))
     obtain⟨cs,ct,cu⟩:=ob aq
     refine l4 (IV w K [] aJ [(1,pt f),(4,V6 y),(5,pt D),(6,V6 ab),(88,.bool cs)] [s7 f [V3 A a b,V3 B c d] 26,s7 D [V3 T U V,sv S.To] 144]) ?_ ?_
     ·refine D4 mixed (by kernel_rfl) ac (kv (c7 a0R u) (kh (z6 W1 u m1 u) (km u ?_)))
      obtain⟨cv,cw,cx⟩:=ob ct
      refine ki underlying23 G7 (C.mono x) cw fun cy cz eB cA cB=>?_
      obtain⟨rfl,cC⟩:=cA
      have cD:F1 _ cy cz [sv cv]:=cB
      refine kh (C1 G7 u (cD 0 _ u)) ?_
      obtain⟨eC,cE,cF⟩:=ob cx
      refine kc b0m (fun _ _ cG eD=>(H9 F) cG.enter0 cC cE) (kv (A4 u) (km u (bt cF (fun k ar=>?_) (fun k ar=>?_))))
      ·iterate 12 refine kn k ?_
       refine kv (J6 u k u) (km u ?_)
       iterate 8 refine qv u u u u ?_
       refine kv (J6 u u u) (B4 ?_)
       rintro eE ⟨cH,cI,cJ⟩
       cases oi ar
       exact qd ⟨cH,u,cI,cJ⟩
      refine kg k (c7 a0R u) (r5 k (z6 W1 u m1 u) (kg k (i5 u) ?_))
      obtain⟨cK,cL,cM⟩:=ob ar
      refine C7 (t:=D9) (wg u u k) u underlying23 G7 u u (C.mono x) cL fun cN cO eF cP cQ=>?_
      obtain⟨rfl,aK⟩:=cP
      have cR:F1 _ cN cO [sv cK]:=cQ
      refine r5 k (C1 G7 u (cR 0 _ u)) ?_
      obtain⟨eG,aL,cS⟩:=ob cM
      refine kdg k c1A (fun _ _ cT eH=>(a28 F) cT.enter0 aK aL) ?_
      obtain⟨_,_,_,⟨_,_,_,eI⟩,_⟩:=(a28 F) ac.enter0 aK aL []
      refine kg k (c7 a0R u) (r5 k (z6 W1 u m1 u) (kg k (i5 u) ?_))
      obtain⟨cU,cV,cW⟩:=ob cS
      refine C7 (t:=D9) (wg u u k) u underlying23 G7 u u (C.mono x) cV fun cX cY eJ cZ da=>?_
      obtain⟨rfl,eK⟩:=cZ
      have db:F1 _ cX cY [sv cU]:=da
      refine r5 k (C1 G7 u (db 0 _ u)) (kg k (a2C u u) (kv (l9 u k u) (km u (bt cW (fun m au=>?_) (fun m au=>?_)))))
      ·iterate 8 refine kn m ?_
       refine kv (J6 u m u) (B4 ?_)
       rintro eL ⟨dc,dd,de⟩
       cases oi au
       exact qd ⟨dc,u,dd,de⟩
      refine kg m (c7 a34 u) (r5 m (z6 W1 u m0 u) (kg m (c7 a0R u) (r5 m (z6 W1 u m1 u) (kg m (i5 u) ?_))))
      obtain⟨df,dg,dh⟩:=ob au
      refine C7 (t:=D9) (wg u u m) u underlying23 G7 u u (C.mono x) dg fun di dj eM dk dl=>?_
      obtain⟨rfl,dm⟩:=dk
      have dn:F1 _ di dj [sv df]:=dl
      refine r5 m (C1 G7 u (dn 0 _ u)) ?_
      obtain⟨eN,dp,dq⟩:=ob dh
      refine kcg m c4D (fun _ _ dr ds=>(a6G F) dr.enter0 (b7.mono (((I.trans R).trans x).trans ds) G) dm dp) (kv (l9 u m u) (B4 ?_))
      rintro eO ⟨dt,du,dv⟩
      cases oi dq
      exact qd ⟨dt,u,du,dv⟩
     rintro _ eP ⟨aM,rfl,aN,dw⟩
     refine l5 (D5 cu u (fun dx aw=>?_) (fun dx aw=>?_))
     ·refine sr (lv (O6 u) (nq (j9 (i9 (c9 (c9 ?_))))))
      cases oi aw
      cases aI _ u
      refine i9 (c9 ?_)
      cases oi aH
      refine c9 (i9 (c9 (c9 ?_)))
      cases oi aa
      cases an _ u
      refine i9 (c9 ?_)
      cases oi am
      refine c9 ?_
      cases oi J
      exact ey results118 ⟨aM,u,aN.s⟩
     refine j3 (x8 (l5 (j5 (mv u (lv (y7 u u) (av u (i8 ?_)))))))
     cases oi aw
     exact qd ⟨_,u,aM,u,aN,(x.trans dw),(u0 _)⟩
    refine y4 (g8 (g8 ?_))
    cases oi aq
    cases aI _ u
    refine l6 ?_
    cases oi aH
    exact qd ⟨_,aJ,u,u,ac,x⟩
   rintro _ eQ ⟨eR,dy,rfl,rfl,aO,ax⟩
   have aa:=E9 aa
   refine qs ?_
   obtain⟨dz,dA,dB⟩:=ob aa
   refine l4 (IV w K [] dy [(1,pt f),(4,V6 y),(107,.bool dz)] [s7 f [V3 A a b,V3 B c d] 26]) ?_ ?_
   ·refine D4 mixed (by kernel_rfl) aO (kv (c7 a0R u) (kh (z6 W1 u m1 u) (kv (q9 underlying23 u (C.mono ax)) ?_)))
    obtain⟨eS,dC,dD⟩:=ob dA
    refine kc a7T (fun _ _ dE eT=>(I9 F) dE.enter0 (C.mono ax).rn (by decide :i7 1) (by decide :i7 3) dC) (kv (A4 u) (km u (bt dD (fun o ay=>?_) (fun o ay=>?_))))
    ·refine kn o (kn o (kn o (kn o (kv (J6 u o u) (km u ?_)))))
     iterate 6 refine qv u u u u ?_
     refine kv (J6 u u u) (B4 ?_)
     rintro eU ⟨dF,dG,dH⟩
     cases oi ay
     exact qd ⟨dF,u,dG.s,dH⟩
    refine kg o (c7 a6q u) (r5 o (z6 G7 u m1 u) ?_)
    obtain⟨eV,dI,dJ⟩:=ob ay
    refine kcg o b0m (fun _ _ dK eW=>(H9 F) dK.enter0 ap dI) (kg o (A4 u) (kv (l9 u o u) (km u (bt dJ (fun s az=>?_) (fun s az=>?_)))))
    ·iterate 6 refine kn s ?_
     refine kv (J6 u s u) (B4 ?_)
     rintro eX ⟨dL,dM,dN⟩
     cases oi az
     exact qd ⟨dL,u,dM.s,dN⟩
    refine kg s (c7 a6q u) (r5 s (z6 G7 u m1 u) ?_)
    obtain⟨eY,aP,dO⟩:=ob az
    refine kdg s c1A (fun _ _ dP eZ=>(a28 F) dP.enter0 ap aP) ?_
    obtain⟨_,_,_,⟨_,_,_,fb⟩,_⟩:=(a28 F) aO.enter0 ap aP []
    refine kg s (c7 a6q u) (r5 s (z6 G7 u m1 u) (kg s (a2C u u) (kv (l9 u s u) (B4 ?_))))
    rintro fc ⟨dQ,dR,dS⟩
    cases oi dO
    exact qd ⟨dQ,u,dR.s,dS⟩
   rintro _ fd ⟨aQ,rfl,aR,dT⟩
   refine l5 (D5 dB u (fun dU aA=>?_) (fun dU aA=>?_))
   ·refine sr (lv (O6 u) (nq (j9 (i9 (c9 (c9 ?_))))))
    cases oi aA
    cases an _ u
    refine i9 (c9 ?_)
    cases oi am
    refine c9 ?_
    cases oi J
    exact ey results118 ⟨aQ,u,aR.s⟩
   refine j3 (x8 (l5 (j5 (mv u (lv (y7 u u) (av u (i8 ?_)))))))
   cases oi aA
   exact qd ⟨_,u,aQ,u,aR,((R.trans ax).trans dT),(u0 _)⟩
  refine y4 (g8 (g8 ?_))
  cases oi ao
  cases an _ u
  refine l6 ?_
  cases oi am
  exact qd ⟨_,Y,u,u,O,R⟩
 rintro _ fe ⟨fg,aS,rfl,rfl,ad,aT⟩
 have J:=E9 J
 refine qr (fl a34 u W1 m0 ad u (lv (q9 underlying23 u (G.mono (I.trans aT))) (lv (V2 u u) (mv u (bt J (fun q aB=>?_) (fun q aB=>?_))))))
 ·refine lg q (c7 a3y u) (lg q (w8 a9v u m0 ad u) (lg q (q9 underlying24 u (ae.mono (I.trans aT))) (lg q (V2 u u) (lv (n9 u q u) (av u (nq (j9 ?_)))))))
  cases oi aB
  exact ey results118 ⟨aS,u,ad.s⟩
 refine lu q (lu q (lu q (lu q (lv (L8 u q u) (av u (nq (j9 ?_)))))))
 cases oi aB
 exact ey results118 ⟨aS,u,ad.s⟩

theorem b3R {q0:r4}{r:Bool}(hS:SH w K [] w K [])(Y:q0.length≤maxLen)(hm:a3J F q0=some r):
  Calls prog 197 #[sv q0] w (R_b w K r):=by
 rw [a3J] at hm
 refine ci func197 u ntmps197 (sr (lv (O6 u) (O7 (lv (N2 u) (nq ?_)))))
 obtain⟨A,B,c⟩:=ob hm
 refine l4 (IE A w K [] K [(0,sv q0)] []) ?_ ?_
 ·refine j7 ?_
  obtain⟨aa,C,o⟩:=ob B
  refine qw (fun (d:Int)=>IW w K [] K [(0,sv q0),(3,V6 d)] [] (i7 d)) C ⟨K,u,hS,kr,I5⟩ ?_
  rintro d _ ab ac D q ⟨f,rfl,i,s,ad⟩
  refine o4 (sr (mv u (mv u (lv (J9 underlying9 u) (lv (u7 u u) (nq (D5 D u (fun G k=>?_) (fun G k=>?_))))))))
  ·refine j3 (qs (j7 (o4 ?_)))
   obtain⟨H,I,J⟩:=ob k
   refine l4 (IV w K [] f [(0,sv q0),(3,V6 d),(19,.bool H)] []) ?_ ?_
   ·refine j5 (mv u (mv u ?_))
    obtain⟨ae,O,R⟩:=ob I
    refine lv (N9 underlying9 u u O) (lv (c4g (b:=(32:UInt8)) u u) (mv u (bt R (fun a l=>?_) (fun a l=>?_))))
    ·refine lu a (lu a (lu a (lu a (lv (J6 u a u) (i8 ?_)))))
     cases oi l
     exact qd ⟨f,u,i,kr⟩
    refine lg a (i5 u) (lg a (i5 u) ?_)
    obtain⟨af,S,T⟩:=ob l
    refine lg a (N9 underlying9 u u S) (lg a (c4e (b:=(126:UInt8)) u u) (lv (l9 u a u) (i8 ?_)))
    cases oi T
    exact qd ⟨f,u,i,kr⟩
   rintro _ ag ⟨x,rfl,y,U⟩
   refine l5 (D5 J u (fun V m=>?_) (fun V m=>?_))
   ·refine sr (lv (O6 u) (nq (j9 (i9 (c9 (c9 ?_))))))
    cases oi m
    cases q _ u
    refine i9 (c9 ?_)
    cases oi o
    refine c9 ?_
    cases oi c
    exact ey results197 ⟨x,u,y⟩
   refine j3 (x8 (l5 (j5 (mv u (lv (y7 u u) (av u (i8 ?_)))))))
   cases oi m
   exact qd ⟨_,u,x,u,y,(s.trans U),(u0 _)⟩
  refine y4 (g8 (g8 ?_))
  cases oi k
  cases q _ u
  refine l6 ?_
  cases oi o
  exact qd ⟨_,f,u,u,i,s⟩
 rintro _ w9 ⟨s5,W,rfl,rfl,X,aj⟩
 have c:=E9 c
 refine qr (mv u (lv (J9 underlying9 u) (lv (V2 u u) (av u (nq (j9 ?_))))))
 cases oi c
 exact ey results197 ⟨W,u,X⟩

theorem b5Z {q0:A1}{r:Bool}(hS:SH w K [] w K [])(aJ:i7 q0.Id)(G:b7 K5 K A a b q0.Fields)(D:b7 N0 K B c d q0.Nums)(hm:a5o F q0=some r):
  Calls prog 159 #[.agg #[V6 q0.Id,V3 A a b,V3 B c d]] w (R_b w K r):=by
 rw [a5o] at hm
 refine ci func159 u ntmps159 (sr (bx u hS fun k da aK=>?_))
 have aL:SH _ _ _ _ _ [s7 k [V6 q0.Id,V3 A a b,V3 B c d] 44]:=aK
 refine lv (O6 u) (O7 (lv (N2 u) (nq ?_)))
 obtain⟨aM,aN,J⟩:=ob hm
 refine l4 (IE aM w K [] K [(1,pt k)] [s7 k [V6 q0.Id,V3 A a b,V3 B c d] 44]) ?_ ?_
 ·refine j7 ?_
  obtain⟨db,aO,ap⟩:=ob aN
  refine qw (fun (O:Int)=>IW w K [] K [(1,pt k),(3,V6 O)] [s7 k [V6 q0.Id,V3 A a b,V3 B c d] 44] (i7 O)) aO ⟨K,u,aL,kr,I5⟩ ?_
  rintro O _ dc dd aP aq ⟨ar,rfl,H,I,de⟩
  refine o4 (sr (mv u (fl a1x u a7g m0 H u (lv (q9 underlying41 u (G.mono I)) (lv (u7 u u) (nq (D5 aP u (fun aQ W=>?_) (fun aQ W=>?_))))))))
  ·refine j3 (qs (j7 (sr (fl a1x u a7g m0 H u (mv u ?_)))))
   obtain⟨R,aR,aS⟩:=ob W
   refine li underlying41 U6 (G.mono I) aR fun aT aU df aV aW=>?_
   obtain⟨rfl,aX,aY⟩:=aV
   have aZ:F1 _ aT aU [sv R.Name,sv R.Text]:=aW
   refine lv (F3 U6 u H aZ u) (al U6 H fun ba dg bb=>?_)
   have bc:SH _ _ _ _ _ [s7 ba [sv [],sv []] 148,_]:=bb
   refine lw [sv R.Name,sv R.Text] U6 bc fun dh bd=>(ns ?_)
   obtain⟨be,bf,bg⟩:=ob aS
   refine l4 (IV w K [] ar [(1,pt k),(3,V6 O),(43,.bool be)] [s7 k [V6 q0.Id,V3 A a b,V3 B c d] 44]) ?_ ?_
   ·refine D4 mixed (by kernel_rfl) bd (kv (c7 a5a u) (kh (z6 G7 u m0 u) ?_))
    obtain⟨di,bh,bi⟩:=ob bf
    refine kc b0m (fun _ _ bj dj=>(H9 F) bj.enter0 aX bh) (kv (A4 u) (km u (bt bi (fun q X=>?_) (fun q X=>?_))))
    ·refine kn q (kn q (kn q (kn q (kv (J6 u q u) (km u (qv u u u u (qv u u u u (qv u u u u ?_))))))))
     iterate 10 refine ku ?_
     refine qv u u u u (kv (J6 u u u) (B4 ?_))
     rintro dk ⟨bk,bl,bm⟩
     cases oi X
     exact qd ⟨bk,u,bl.s,bm⟩
    refine kg q (c7 b0n u) (r5 q (z6 G7 u m0 u) ?_)
    obtain⟨dl,bn,bo⟩:=ob X
    refine kcg q c6g (fun _ _ bp dm=>(b3R F) bp.enter0 aY bn) (kg q (A4 u) (kv (l9 u q u) (km u (bt bo (fun l Y=>?_) (fun l Y=>?_)))))
    ·refine kn l (kn l (kn l ?_))
     iterate 10 refine ku ?_
     refine kn l (kv (J6 u l u) (B4 ?_))
     rintro dn ⟨bq,br,bs⟩
     cases oi Y
     exact qd ⟨bq,u,br.s,bs⟩
    refine kg l (i5 u) (kg l (E7 u u) (kg l (i5 u) (bt Y (fun i aa=>?_) (fun i aa=>?_))))
    ·refine kg i (c7 a5a u) (r5 i (z6 G7 u m0 u) (kg i (c7 a1x u) (r5 i (z6 a7g u m1 u) (kg i (i5 u) (kg i (I6 u u) ?_)))))
     obtain⟨au,bu,bv⟩:=ob aa
     refine C7 (t:=K5) (wg u u i) u underlying41 U6 u u (G.mono I) bu fun bz bA dp bB bC=>?_
     obtain⟨rfl,dq,dr⟩:=bB
     have bD:F1 _ bz bA [sv au.Name,sv au.Text]:=bC
     refine kg i (c7 a5a u) (r5 i (C1 G7 u (bD 0 _ u)) (kg i (b53 u u) (kg l (n9 u i u) (kv (l9 u l u) (B4 ?_)))))
     rintro ds ⟨bE,bF,bG⟩
     cases oi bv
     exact qd ⟨bE,u,bF.s,bG⟩
    iterate 10 refine kn i ?_
    refine kg l (L8 u i u) (kv (l9 u l u) (B4 ?_))
    rintro dt ⟨bH,bI,bJ⟩
    cases oi aa
    exact qd ⟨bH,u,bI.s,bJ⟩
   rintro _ du ⟨aw,rfl,ax,bK⟩
   refine l5 (D5 bg u (fun bL ab=>?_) (fun bL ab=>?_))
   ·refine sr (lv (O6 u) (nq (j9 (i9 (c9 (c9 ?_))))))
    cases oi ab
    cases aq _ u
    refine i9 (c9 ?_)
    cases oi ap
    refine c9 ?_
    cases oi J
    exact ey results159 ⟨aw,u,ax.s⟩
   refine j3 (x8 (l5 (j5 (mv u (lv (y7 u u) (av u (i8 ?_)))))))
   cases oi ab
   exact qd ⟨_,u,aw,u,ax,(I.trans bK),(u0 _)⟩
  refine y4 (g8 (g8 ?_))
  cases oi W
  cases aq _ u
  refine l6 ?_
  cases oi ap
  exact qd ⟨_,ar,u,u,H,I⟩
 rintro _ dv ⟨dw,ac,rfl,rfl,bM,y⟩
 have J:=E9 J
 refine qs (sr (lv (N2 u) (nq ?_)))
 obtain⟨bN,bO,S⟩:=ob J
 refine l4 (IE bN w K [] ac [(1,pt k)] [s7 k [V6 q0.Id,V3 A a b,V3 B c d] 44]) ?_ ?_
 ·refine j7 ?_
  obtain⟨dx,bP,ay⟩:=ob bO
  refine qw (fun (T:Int)=>IW w K [] ac [(1,pt k),(5,V6 T)] [s7 k [V6 q0.Id,V3 A a b,V3 B c d] 44] (i7 T)) bP ⟨ac,u,bM,kr,I5⟩ ?_
  rintro T _ dy dz bQ az ⟨aA,rfl,ad,C,dA⟩
  refine o4 (sr (mv u (fl a1S u a7y m0 ad u (lv (q9 underlying42 u (D.mono (y.trans C))) (lv (u7 u u) (nq (D5 bQ u (fun bR ae=>?_) (fun bR ae=>?_))))))))
  ·refine j3 (qs (j7 (o4 ?_)))
   obtain⟨bS,bT,bU⟩:=ob ae
   refine l4 (IV w K [] aA [(1,pt k),(5,V6 T),(88,.bool bS)] [s7 k [V6 q0.Id,V3 A a b,V3 B c d] 44]) ?_ ?_
   ·refine D4 mixed (by kernel_rfl) ad (kv (c7 a1S u) (kh (z6 a7y u m0 u) (km u ?_)))
    obtain⟨aB,bV,bW⟩:=ob bT
    refine ki underlying42 Y9 (D.mono (y.trans C)) bV fun bX bY dB bZ ca=>?_
    obtain⟨rfl,cb,dC⟩:=bZ
    have cc:F1 _ bX bY [sv aB.Name,V6 aB.Num]:=ca
    refine kv (c7 a6o u) (kh (C1 G7 u (cc 0 _ u)) ?_)
    obtain⟨dD,cd,ce⟩:=ob bW
    refine kc b0m (fun _ _ cf dE=>(H9 F) cf.enter0 cb cd) (kv (A4 u) (km u (bt ce (fun o af=>?_) (fun o af=>?_))))
    ·iterate 8 refine kn o ?_
     refine kv (J6 u o u) (km u (qv u u u u (qv u u u u (qv u u u u ?_))))
     iterate 14 refine ku ?_
     refine qv u u u u (kv (J6 u u u) (B4 ?_))
     rintro dF ⟨cg,ch,cj⟩
     cases oi af
     exact qd ⟨cg,u,ch,cj⟩
    refine kg o (c7 a1S u) (r5 o (z6 a7y u m0 u) (kg o (i5 u) ?_))
    obtain⟨aC,ck,cl⟩:=ob af
    refine C7 (t:=N0) (wg u u o) u underlying42 Y9 u u (D.mono (y.trans C)) ck fun cm cn dG cp cq=>?_
    obtain⟨rfl,dH,cr⟩:=cp
    have cs:F1 _ cm cn [sv aC.Name,V6 aC.Num]:=cq
    refine kg o (c7 b2Z u) (r5 o (C1 E6 u (cs 1 _ u)) ?_)
    obtain⟨dI,ct,cu⟩:=ob cl
    refine kcg o a7T (fun _ _ cv dJ=>(I9 F) cv.enter0 cr I5 (by decide :i7 999999999) ct) (kg o (A4 u) (kv (l9 u o u) (km u (bt cu (fun m ag=>?_) (fun m ag=>?_)))))
    ·refine kn m (kn m (kn m ?_))
     iterate 14 refine ku ?_
     refine kn m (kv (J6 u m u) (B4 ?_))
     rintro dK ⟨cw,cx,cy⟩
     cases oi ag
     exact qd ⟨cw,u,cx,cy⟩
    refine kg m (i5 u) (kg m (E7 u u) (kg m (i5 u) (bt ag (fun f ah=>?_) (fun f ah=>?_))))
    ·refine kg f (c7 a1S u) (r5 f (z6 a7y u m0 u) (kg f (i5 u) ?_))
     obtain⟨aD,cz,cA⟩:=ob ah
     refine C7 (t:=N0) (wg u u f) u underlying42 Y9 u u (D.mono (y.trans C)) cz fun cB cC dL cD cE=>?_
     obtain⟨rfl,dM,dN⟩:=cD
     have cF:F1 _ cB cC [sv aD.Name,V6 aD.Num]:=cE
     refine kg f (c7 a6o u) (r5 f (C1 G7 u (cF 0 _ u)) (kg f (c7 a1S u) (r5 f (z6 a7y u m0 u) (kg f (i5 u) (kg f (I6 u u) ?_)))))
     obtain⟨aE,cG,cH⟩:=ob cA
     refine C7 (t:=N0) (wg u u f) u underlying42 Y9 u u (D.mono (y.trans C)) cG fun cI cJ dO cK cL=>?_
     obtain⟨rfl,dP,dQ⟩:=cK
     have cM:F1 _ cI cJ [sv aE.Name,V6 aE.Num]:=cL
     refine kg f (c7 a6o u) (r5 f (C1 G7 u (cM 0 _ u)) (kg f (b53 u u) (kg m (n9 u f u) (kv (l9 u m u) (B4 ?_)))))
     rintro dR ⟨cN,cO,cP⟩
     cases oi cH
     exact qd ⟨cN,u,cO,cP⟩
    iterate 14 refine kn f ?_
    refine kg m (L8 u f u) (kv (l9 u m u) (B4 ?_))
    rintro dS ⟨cQ,cR,cS⟩
    cases oi ah
    exact qd ⟨cQ,u,cR,cS⟩
   rintro _ dT ⟨aF,rfl,aG,cT⟩
   refine l5 (D5 bU u (fun cU ai=>?_) (fun cU ai=>?_))
   ·refine sr (lv (O6 u) (nq (j9 (i9 (c9 (c9 ?_))))))
    cases oi ai
    cases az _ u
    refine i9 (c9 ?_)
    cases oi ay
    refine c9 ?_
    cases oi S
    exact ey results159 ⟨aF,u,aG.s⟩
   refine j3 (x8 (l5 (j5 (mv u (lv (y7 u u) (av u (i8 ?_)))))))
   cases oi ai
   exact qd ⟨_,u,aF,u,aG,(C.trans cT),(u0 _)⟩
  refine y4 (g8 (g8 ?_))
  cases oi ae
  cases az _ u
  refine l6 ?_
  cases oi ay
  exact qd ⟨_,aA,u,u,ad,C⟩
 rintro _ dU ⟨dV,dW,rfl,rfl,aj,ak⟩
 have S:=E9 S
 refine qr (fl P6 u E6 m0 aj u ?_)
 obtain⟨dX,cV,cW⟩:=ob S
 refine lk a7T (I9 F aj.enter0 aJ (by decide :i7 1) (by decide :i7 9999) cV) ?_
 rintro dY dZ ⟨cX,rfl,U⟩
 have V:=(aj.c0 U).t1
 refine mv u (bt cW (fun s am=>?_) (fun s am=>?_))
 ·refine lg s (c7 a1x u) (lg s (w8 a7g u m0 V u) (lg s (q9 underlying41 u (G.mono ((y.trans ak).trans U.le))) ?_))
  obtain⟨ea,cY,cZ⟩:=ob am
  refine A3 (wg u u s) u (A2 (vs:=[V6 (q0.Fields.length:Int),V6 0,V6 3]) a7T u) (I9 F V.enter0 (a0Z (b7.max (G.mono ((y.trans ak).trans U.le)))) I5 (by decide :i7 3) cY) ?_
  rintro eb ec ⟨aH,rfl,aI⟩
  refine⟨_,u,?_⟩
  have an:=(V.c0 aI).t1
  refine lv (n9 u s u) (mv u (bt cZ (fun x ao=>?_) (fun x ao=>?_)))
  ·refine lg x (c7 a1S u) (lg x (w8 a7y u m0 an u) (lg x (q9 underlying42 u (b7.mono (((y.trans ak).trans U.le).trans aI.le) D)) (lg x (V2 u u) (lv (n9 u x u) (av u (nq (j9 ?_)))))))
   cases oi ao
   exact ey results159 ⟨aH,u,an.s⟩
  refine lu x (lu x (lu x (lu x (lv (L8 u x u) (av u (nq (j9 ?_)))))))
  cases oi ao
  exact ey results159 ⟨aH,u,an.s⟩
 refine lu s (lu s (lu s (lu s (lv (L8 u s u) (mv u (lu u (lu u (lu u (lu u ?_)))))))))
 refine lv (L8 u u u) (av u (nq (j9 ?_)))
 cases oi am
 exact ey results159 ⟨cX,u,V.s⟩

theorem b3W {q0:List A1}{r:Bool}(hS:SH w K [] w K [])(i:b7 F6 K A a b q0)(hm:a3O F q0=some r):
  Calls prog 119 #[V3 A a b] w (R_b w K r):=by
 rw [a3O] at hm
 refine ci func119 u ntmps119 (sr (lv (O6 u) (O7 (lv (N2 u) (nq ?_)))))
 obtain⟨I,J,k⟩:=ob hm
 refine l4 (IE I w K [] K [(0,V3 A a b)] []) ?_ ?_
 ·refine j7 ?_
  obtain⟨bk,O,x⟩:=ob J
  refine qw (fun (l:Int)=>IW w K [] K [(0,V3 A a b),(3,V6 l)] [] (i7 l)) O ⟨K,u,hS,kr,I5⟩ ?_
  rintro l _ bl bm R y ⟨B,rfl,C,f,bn⟩
  refine o4 (sr (mv u (mv u (lv (q9 underlying27 u (i.mono f)) (lv (u7 u u) (nq (D5 R u (fun S m=>?_) (fun S m=>?_))))))))
  ·refine j3 (qs (j7 (o4 ?_)))
   obtain⟨T,U,V⟩:=ob m
   refine l4 (IV w K [] B [(0,V3 A a b),(3,V6 l),(33,.bool T)] []) ?_ ?_
   ·refine D4 mixed (by kernel_rfl) C (km u (km u ?_))
    obtain⟨W,X,Y⟩:=ob U
    refine ki underlying27 E8 (i.mono f) X fun aa ab bo ac ad=>?_
    obtain⟨ae,af,ag,ah,ai,aj,rfl,ak,al,am⟩:=ac
    have an:F1 _ aa ab [V6 W.Id,V3 ae af ag,V3 ah ai aj]:=ad
    refine kh (a1C E8 u an u) ?_
    obtain⟨bp,ao,ap⟩:=ob Y
    refine kc c5W (fun _ _ aq D=>(b5Z F) aq.enter0 ak (al.mono D) (am.mono D) ao) (kv (A4 u) (km u (bt ap (fun d o=>?_) (fun d o=>?_))))
    ·refine kn d (kn d (kn d ?_))
     iterate 12 refine ku ?_
     refine kn d (kv (J6 u d u) (B4 ?_))
     rintro bq ⟨ar,au,aw⟩
     cases oi o
     exact qd ⟨ar,u,au,aw⟩
    refine kg d (i5 u) (kg d (E7 u u) (kg d (i5 u) (bt o (fun c q=>?_) (fun c q=>?_))))
    ·refine kg c (i5 u) (kg c (i5 u) ?_)
     obtain⟨ax,ay,az⟩:=ob q
     refine C7 (t:=F6) (wg u u c) u underlying27 E8 u u (i.mono f) ay fun aA aB br aC aD=>?_
     obtain⟨aE,aF,aG,aH,aI,aJ,rfl,bs,bu,bv⟩:=aC
     have aK:F1 _ aA aB [V6 ax.Id,V3 aE aF aG,V3 aH aI aJ]:=aD
     refine kg c (c7 P6 u) (r5 c (C1 E6 u (aK 0 _ u)) (kg c (i5 u) (kg c (i5 u) (kg c (I6 u u) ?_))))
     obtain⟨aL,aM,aN⟩:=ob az
     refine C7 (t:=F6) (wg u u c) u underlying27 E8 u u (i.mono f) aM fun aO aP bx aQ aR=>?_
     obtain⟨aS,aT,aU,aV,aW,aX,rfl,bz,bA,bB⟩:=aQ
     have aY:F1 _ aO aP [V6 aL.Id,V3 aS aT aU,V3 aV aW aX]:=aR
     refine kg c (c7 P6 u) (r5 c (C1 E6 u (aY 0 _ u)) (kg c (V2 u u) (kg d (n9 u c u) (kv (l9 u d u) (B4 ?_)))))
     rintro bC ⟨aZ,ba,bb⟩
     cases oi aN
     exact qd ⟨aZ,u,ba,bb⟩
    iterate 12 refine kn c ?_
    refine kg d (L8 u c u) (kv (l9 u d u) (B4 ?_))
    rintro bD ⟨bc,bd,be⟩
    cases oi q
    exact qd ⟨bc,u,bd,be⟩
   rintro _ bE ⟨G,rfl,H,bf⟩
   refine l5 (D5 V u (fun bg s=>?_) (fun bg s=>?_))
   ·refine sr (lv (O6 u) (nq (j9 (i9 (c9 (c9 ?_))))))
    cases oi s
    cases y _ u
    refine i9 (c9 ?_)
    cases oi x
    refine c9 ?_
    cases oi k
    exact ey results119 ⟨G,u,H⟩
   refine j3 (x8 (l5 (j5 (mv u (lv (y7 u u) (av u (i8 ?_)))))))
   cases oi s
   exact qd ⟨_,u,G,u,H,(f.trans bf),(u0 _)⟩
  refine y4 (g8 (g8 ?_))
  cases oi m
  cases y _ u
  refine l6 ?_
  cases oi x
  exact qd ⟨_,B,u,u,C,f⟩
 rintro _ bF ⟨s8,K9,rfl,rfl,bi,bj⟩
 have k:=E9 k
 refine qr (mv u (lv (q9 underlying27 u (i.mono bj)) (lv (V2 u u) (av u (nq (j9 ?_))))))
 cases oi k
 exact ey results119 ⟨K9,u,bi⟩

theorem a4V {q0:List r4}{q1:Int}{r:Bool}(hS:SH w K [] w K [])(c:b7 D9 K A a b q0)(D:i7 q1)(hm:R6 F q0 q1=some r):
  Calls prog 86 #[V3 A a b,V6 q1] w (R_b w K r):=by
 rw [R6] at hm
 refine ci func86 u ntmps86 (sr (lv (O6 u) (O7 (lv (N2 u) (nq ?_)))))
 obtain⟨G,H,d⟩:=ob hm
 refine l4 (IE G w K [] K [(0,V3 A a b),(1,V6 q1)] []) ?_ ?_
 ·refine j7 ?_
  obtain⟨ak,I,o⟩:=ob H
  refine qw (fun (k:Int)=>IW w K [] K [(0,V3 A a b),(1,V6 q1),(5,V6 k)] [] (i7 k)) I ⟨K,u,hS,kr,I5⟩ ?_
  rintro k _ al am J q ⟨O,rfl,f,i,an⟩
  refine o4 (sr (mv u (mv u (lv (q9 underlying23 u (c.mono i)) (lv (u7 u u) (nq (D5 J u (fun R l=>?_) (fun R l=>?_))))))))
  ·refine j3 (qs (j7 (sr (mv u (mv u ?_)))))
   obtain⟨S,T,U⟩:=ob l
   refine li underlying23 G7 (c.mono i) T fun V W ao X Y=>?_
   obtain⟨rfl,aa⟩:=X
   have ab:F1 _ V W [sv S]:=Y
   refine lv (y9 G7 u f (ab 0 _ u)) ?_
   obtain⟨ap,ac,ad⟩:=ob U
   refine lk b0m (H9 F f.enter0 aa ac) ?_
   rintro aq ar ⟨s,rfl,x⟩
   have y:=(f.c0 x).t0
   refine lv (A4 u) (nq (D5 ad u (fun ae m=>?_) (fun ae m=>?_)))
   ·refine sr (lv (O6 u) (nq (j9 (i9 (c9 (c9 ?_))))))
    cases oi m
    cases q _ u
    refine i9 (c9 ?_)
    cases oi o
    refine c9 ?_
    cases oi d
    exact ey results86 ⟨s,u,y⟩
   refine j3 (x8 (l5 (j5 (mv u (lv (y7 u u) (av u (i8 ?_)))))))
   cases oi m
   exact qd ⟨_,u,s,u,y,(i.trans x.le),(u0 _)⟩
  refine y4 (g8 (g8 ?_))
  cases oi l
  cases q _ u
  refine l6 ?_
  cases oi o
  exact qd ⟨_,O,u,u,f,i⟩
 rintro _ au ⟨s9,ax,rfl,rfl,B,C⟩
 have d:=E9 d
 refine qr (mv u (lv (q9 underlying23 u (c.mono C)) (mv u ?_)))
 obtain⟨ay,af,ag⟩:=ob d
 refine lk a7T (I9 F B.enter0 (c.mono C).rn (by decide :i7 1) D af) ?_
 rintro az aA ⟨ah,rfl,ai⟩
 have aj:=(B.c0 ai).t0
 refine av u (nq (j9 ?_))
 cases oi ag
 exact ey results86 ⟨ah,u,aj⟩

theorem R7 {q0:q7}{q1:Bool}{q2:Bool}{q3:Bool}{q4:Bool}{r:Bool}(hS:SH w K [] w K [])(aJ:i7 q0.Kind)(aK:q0.Field.length≤maxLen)(aG:b7 D9 K A a b q0.Words)(aL:i7 q0.From)(aM:i7 q0.To)(ac:b7 F4 K B c d q0.Kids)(hm:F2 F q0 q1 q2 q3 q4=some r):
  Calls prog 206 #[.agg #[V6 q0.Kind,sv q0.Field,V3 A a b,V6 q0.From,V6 q0.To,V3 B c d],.bool q1,.bool q2,.bool q3,.bool q4] w (R_b w K r):=by
 rw [F2] at hm
 refine ci func206 u ntmps206 (sr (bx u hS fun aH aN aI=>?_))
 have f:SH _ _ _ _ _ [s7 aH [V6 q0.Kind,sv q0.Field,V3 A a b,V6 q0.From,V6 q0.To,V3 B c d] 35]:=aI
 refine lv (O6 u) (nr (mv u (mv u (bt hm (fun W ad=>?_) (fun W ad=>?_)))))
 ·refine lu W (lu W (lu W (lv (J6 u W u) (mv u (lg u (i5 u) (lg u (i5 u) (bt ad (fun s ae=>?_) (fun s ae=>?_))))))))
  ·refine lu s (lu s (lu s (lu s (lg u (J6 u s u) (lv (n9 u u u) (mv u (lg u (i5 u) (lg u (i5 u) (bt ae (fun i af=>?_) (fun i af=>?_))))))))))
   ·refine lu i (lu i (lu i (lu i (A8 (uu u u) u (A8 (uu u u) u (A8 (uu u u) u (lu i (lg u (J6 u i u) (lv (n9 u u u) ?_)))))))))
    refine mv u (lg u (i5 u) (lg u (i5 u) (bt af (fun x ag=>?_) (fun x ag=>?_))))
    ·refine lu x (lu x (lu x (lu x (lg u (J6 u x u) (lv (n9 u u u) (av u (nq (j9 ?_))))))))
     cases oi ag
     exact ey results206 ⟨K,u,f.s⟩
    refine lg x (c7 W9 u) (lg x (w8 a5u u m0 f u) (lg x (q9 underlying33 u ac) (lg x (A9 u u) (lg u (l9 u x u) (lv (n9 u u u) (av u (nq (j9 ?_))))))))
    cases oi ag
    exact ey results206 ⟨K,u,f.s⟩
   refine lg i (c7 a1w u) (lg i (w8 E6 u m0 f u) (lg i (A9 u u) (lg i (i5 u) (bt af (fun X ah=>?_) (fun X ah=>?_)))))
   ·refine lg X (c7 a4L u) (lg X (w8 E6 u m0 f u) (lg X (A9 u u) (lg i (n9 u X u) (lg u (l9 u i u) (lv (n9 u u u) (mv u (bt ah (fun y ai=>?_) (fun y ai=>?_))))))))
    ·refine lg y (i5 u) (lg y (i5 u) (bt ai (fun C aj=>?_) (fun C aj=>?_)))
     ·refine lu C (lu C (lu C (lu C (lg y (J6 u C u) (lv (n9 u y u) (av u (nq (j9 ?_))))))))
      cases oi aj
      exact ey results206 ⟨K,u,f.s⟩
     refine lg C (c7 W9 u) (lg C (w8 a5u u m0 f u) (lg C (q9 underlying33 u ac) (lg C (A9 u u) (lg y (l9 u C u) (lv (n9 u y u) (av u (nq (j9 ?_))))))))
     cases oi aj
     exact ey results206 ⟨K,u,f.s⟩
    refine lu y (lu y (A8 (uu u u) u (A8 (uu u u) u (A8 (uu u u) u (A8 (uu u u) u (lu y (lv (L8 u y u) (av u (nq ?_)))))))))
    refine j9 ?_
    cases oi ai
    exact ey results206 ⟨K,u,f.s⟩
   refine lu X (lu X (lu X (lg i (L8 u X u) (lg u (l9 u i u) (lv (n9 u u u) (mv u (lu u (lu u (A8 (uu u u) u ?_)))))))))
   refine A8 (uu u u) u (A8 (uu u u) u (A8 (uu u u) u (lu u (lv (L8 u u u) (av u (nq (j9 ?_)))))))
   cases oi ah
   exact ey results206 ⟨K,u,f.s⟩
  refine lg s (c7 a0B u) (lg s (w8 W1 u m0 f u) (lg s (q9 underlying23 u aG) (lg s (A9 u u) (lg u (l9 u s u) (lv (n9 u u u) (mv u (bt ae (fun o ak=>?_) (fun o ak=>?_))))))))
  ·refine lg o (i5 u) (lg o (i5 u) (bt ak (fun k al=>?_) (fun k al=>?_)))
   ·refine lu k (lu k (lu k (lu k (A8 (uu u u) u (A8 (uu u u) u (A8 (uu u u) u (lu k (lg o (J6 u k u) (lv (n9 u o u) ?_)))))))))
    refine mv u (lg u (i5 u) (lg u (i5 u) (bt al (fun D am=>?_) (fun D am=>?_))))
    ·refine lu D (lu D (lu D (lu D (lg u (J6 u D u) (lv (n9 u u u) (av u (nq (j9 ?_))))))))
     cases oi am
     exact ey results206 ⟨K,u,f.s⟩
    refine lg D (c7 W9 u) (lg D (w8 a5u u m0 f u) (lg D (q9 underlying33 u ac) (lg D (A9 u u) (lg u (l9 u D u) (lv (n9 u u u) (av u (nq (j9 ?_))))))))
    cases oi am
    exact ey results206 ⟨K,u,f.s⟩
   refine lg k (c7 a1w u) (lg k (w8 E6 u m0 f u) (lg k (A9 u u) (lg k (i5 u) (bt al (fun Y an=>?_) (fun Y an=>?_)))))
   ·refine lg Y (c7 a4L u) (lg Y (w8 E6 u m0 f u) (lg Y (A9 u u) (lg k (n9 u Y u) (lg o (l9 u k u) (lv (n9 u o u) (mv u (bt an (fun G ao=>?_) (fun G ao=>?_))))))))
    ·refine lg G (i5 u) (lg G (i5 u) (bt ao (fun H ap=>?_) (fun H ap=>?_)))
     ·refine lu H (lu H (lu H (lu H (lg G (J6 u H u) (lv (n9 u G u) (av u (nq (j9 ?_))))))))
      cases oi ap
      exact ey results206 ⟨K,u,f.s⟩
     refine lg H (c7 W9 u) (lg H (w8 a5u u m0 f u) (lg H (q9 underlying33 u ac) (lg H (A9 u u) (lg G (l9 u H u) (lv (n9 u G u) (av u (nq (j9 ?_))))))))
     cases oi ap
     exact ey results206 ⟨K,u,f.s⟩
    refine lu G (lu G (A8 (uu u u) u (A8 (uu u u) u (A8 (uu u u) u (A8 (uu u u) u (lu G (lv (L8 u G u) (av u (nq ?_)))))))))
    refine j9 ?_
    cases oi ao
    exact ey results206 ⟨K,u,f.s⟩
   refine lu Y (lu Y (lu Y (lg k (L8 u Y u) (lg o (l9 u k u) (lv (n9 u o u) (mv u (lu u (lu u (A8 (uu u u) u ?_)))))))))
   refine A8 (uu u u) u (A8 (uu u u) u (A8 (uu u u) u (lu u (lv (L8 u u u) (av u (nq (j9 ?_)))))))
   cases oi an
   exact ey results206 ⟨K,u,f.s⟩
  refine lu o (lu o (A8 (uu u u) u (A8 (uu u u) u (A8 (uu u u) u (A8 (uu u u) u (A8 (uu u u) u (A8 (uu u u) u (A8 (uu u u) u (A8 (uu u u) u ?_)))))))))
  refine lu o (lv (L8 u o u) (mv u (lu u (lu u (A8 (uu u u) u (A8 (uu u u) u (A8 (uu u u) u (A8 (uu u u) u (lu u ?_)))))))))
  refine lv (L8 u u u) (av u (nq (j9 ?_)))
  cases oi ak
  exact ey results206 ⟨K,u,f.s⟩
 refine lg W (c7 Z3 u) (lg W (w8 G7 u m0 f u) (lg W (J8 (r:=([]:r4)) u u) (lv (l9 u W u) (mv u (bt ad (fun I aq=>?_) (fun I aq=>?_))))))
 ·refine lg I (i5 u) (lg I (i5 u) (bt aq (fun J ar=>?_) (fun J ar=>?_)))
  ·refine lu J (lu J (lu J (lu J (lg I (J6 u J u) (lv (n9 u I u) (mv u (lg u (i5 u) (lg u (i5 u) (bt ar (fun l au=>?_) (fun l au=>?_))))))))))
   ·refine lu l (lu l (lu l (lu l (A8 (uu u u) u (A8 (uu u u) u (A8 (uu u u) u (lu l (lg u (J6 u l u) (lv (n9 u u u) ?_)))))))))
    refine mv u (lg u (i5 u) (lg u (i5 u) (bt au (fun O aw=>?_) (fun O aw=>?_))))
    ·refine lu O (lu O (lu O (lu O (lg u (J6 u O u) (lv (n9 u u u) (av u (nq (j9 ?_))))))))
     cases oi aw
     exact ey results206 ⟨K,u,f.s⟩
    refine lg O (c7 W9 u) (lg O (w8 a5u u m0 f u) (lg O (q9 underlying33 u ac) (lg O (A9 u u) (lg u (l9 u O u) (lv (n9 u u u) (av u (nq (j9 ?_))))))))
    cases oi aw
    exact ey results206 ⟨K,u,f.s⟩
   refine lg l (c7 a1w u) (lg l (w8 E6 u m0 f u) (lg l (A9 u u) (lg l (i5 u) (bt au (fun aa ax=>?_) (fun aa ax=>?_)))))
   ·refine lg aa (c7 a4L u) (lg aa (w8 E6 u m0 f u) (lg aa (A9 u u) (lg l (n9 u aa u) (lg u (l9 u l u) (lv (n9 u u u) (mv u (bt ax (fun R ay=>?_) (fun R ay=>?_))))))))
    ·refine lg R (i5 u) (lg R (i5 u) (bt ay (fun S az=>?_) (fun S az=>?_)))
     ·refine lu S (lu S (lu S (lu S (lg R (J6 u S u) (lv (n9 u R u) (av u (nq (j9 ?_))))))))
      cases oi az
      exact ey results206 ⟨K,u,f.s⟩
     refine lg S (c7 W9 u) (lg S (w8 a5u u m0 f u) (lg S (q9 underlying33 u ac) (lg S (A9 u u) (lg R (l9 u S u) (lv (n9 u R u) (av u (nq (j9 ?_))))))))
     cases oi az
     exact ey results206 ⟨K,u,f.s⟩
    refine lu R (lu R (A8 (uu u u) u (A8 (uu u u) u (A8 (uu u u) u (A8 (uu u u) u (lu R (lv (L8 u R u) (av u (nq ?_)))))))))
    refine j9 ?_
    cases oi ay
    exact ey results206 ⟨K,u,f.s⟩
   refine lu aa (lu aa (lu aa (lg l (L8 u aa u) (lg u (l9 u l u) (lv (n9 u u u) (mv u (lu u (lu u (A8 (uu u u) u ?_)))))))))
   refine A8 (uu u u) u (A8 (uu u u) u (A8 (uu u u) u (lu u (lv (L8 u u u) (av u (nq (j9 ?_)))))))
   cases oi ax
   exact ey results206 ⟨K,u,f.s⟩
  refine lg J (c7 a0B u) (lg J (w8 W1 u m0 f u) (lg J (q9 underlying23 u aG) (lg J (A9 u u) (lg I (l9 u J u) (lv (n9 u I u) (mv u (bt ar (fun q aA=>?_) (fun q aA=>?_))))))))
  ·refine lg q (i5 u) (lg q (i5 u) (bt aA (fun m aB=>?_) (fun m aB=>?_)))
   ·refine lu m (lu m (lu m (lu m (A8 (uu u u) u (A8 (uu u u) u (A8 (uu u u) u (lu m (lg q (J6 u m u) (lv (n9 u q u) ?_)))))))))
    refine mv u (lg u (i5 u) (lg u (i5 u) (bt aB (fun T aC=>?_) (fun T aC=>?_))))
    ·refine lu T (lu T (lu T (lu T (lg u (J6 u T u) (lv (n9 u u u) (av u (nq (j9 ?_))))))))
     cases oi aC
     exact ey results206 ⟨K,u,f.s⟩
    refine lg T (c7 W9 u) (lg T (w8 a5u u m0 f u) (lg T (q9 underlying33 u ac) (lg T (A9 u u) (lg u (l9 u T u) (lv (n9 u u u) (av u (nq (j9 ?_))))))))
    cases oi aC
    exact ey results206 ⟨K,u,f.s⟩
   refine lg m (c7 a1w u) (lg m (w8 E6 u m0 f u) (lg m (A9 u u) (lg m (i5 u) (bt aB (fun ab aD=>?_) (fun ab aD=>?_)))))
   ·refine lg ab (c7 a4L u) (lg ab (w8 E6 u m0 f u) (lg ab (A9 u u) (lg m (n9 u ab u) (lg q (l9 u m u) (lv (n9 u q u) (mv u (bt aD (fun U aE=>?_) (fun U aE=>?_))))))))
    ·refine lg U (i5 u) (lg U (i5 u) (bt aE (fun V aF=>?_) (fun V aF=>?_)))
     ·refine lu V (lu V (lu V (lu V (lg U (J6 u V u) (lv (n9 u U u) (av u (nq (j9 ?_))))))))
      cases oi aF
      exact ey results206 ⟨K,u,f.s⟩
     refine lg V (c7 W9 u) (lg V (w8 a5u u m0 f u) (lg V (q9 underlying33 u ac) (lg V (A9 u u) (lg U (l9 u V u) (lv (n9 u U u) (av u (nq (j9 ?_))))))))
     cases oi aF
     exact ey results206 ⟨K,u,f.s⟩
    refine lu U (lu U (A8 (uu u u) u (A8 (uu u u) u (A8 (uu u u) u (A8 (uu u u) u (lu U (lv (L8 u U u) (av u (nq ?_)))))))))
    refine j9 ?_
    cases oi aE
    exact ey results206 ⟨K,u,f.s⟩
   refine lu ab (lu ab (lu ab (lg m (L8 u ab u) (lg q (l9 u m u) (lv (n9 u q u) (mv u (lu u (lu u (A8 (uu u u) u ?_)))))))))
   refine A8 (uu u u) u (A8 (uu u u) u (A8 (uu u u) u (lu u (lv (L8 u u u) (av u (nq (j9 ?_)))))))
   cases oi aD
   exact ey results206 ⟨K,u,f.s⟩
  refine lu q (lu q (A8 (uu u u) u (A8 (uu u u) u (A8 (uu u u) u (A8 (uu u u) u (A8 (uu u u) u (A8 (uu u u) u (A8 (uu u u) u (A8 (uu u u) u ?_)))))))))
  refine lu q (lv (L8 u q u) (mv u (lu u (lu u (A8 (uu u u) u (A8 (uu u u) u (A8 (uu u u) u (A8 (uu u u) u (lu u ?_)))))))))
  refine lv (L8 u u u) (av u (nq (j9 ?_)))
  cases oi aA
  exact ey results206 ⟨K,u,f.s⟩
 refine lu I (lu I (A8 (uu u u) u (A8 (uu u u) u (A8 (uu u u) u (A8 (uu u u) u (lu I (lv (L8 u I u) (mv u (lu u ?_)))))))))
 refine lu u (A8 (uu u u) u (A8 (uu u u) u (A8 (uu u u) u (A8 (uu u u) u (A8 (uu u u) u (A8 (uu u u) u (A8 (uu u u) u (A8 (uu u u) u (lu u ?_)))))))))
 refine lv (L8 u u u) (mv u (lu u (lu u (A8 (uu u u) u (A8 (uu u u) u (A8 (uu u u) u (A8 (uu u u) u (lu u (lv (L8 u u u) ?_)))))))))
 refine av u (nq (j9 ?_))
 cases oi aq
 exact ey results206 ⟨K,u,f.s⟩

theorem b1F {q0:r4}{r:Bool}(hS:SH w K [] w K [])(s:q0.length≤maxLen)(hm:a2b F q0=some r):
  Calls prog 207 #[sv q0] w (R_b w K r):=by
 rw [a2b] at hm
 refine ci func207 u ntmps207 (sr (lv (O6 u) (O7 (lv (N2 u) (nq ?_)))))
 obtain⟨I,J,f⟩:=ob hm
 refine l4 (IE I w K [] K [(0,sv q0)] []) ?_ ?_
 ·refine j7 ?_
  obtain⟨ao,O,x⟩:=ob J
  refine qw (fun (i:Int)=>IW w K [] K [(0,sv q0),(3,V6 i)] [] (i7 i)) O ⟨K,u,hS,kr,I5⟩ ?_
  rintro i _ ap aq R y ⟨k,rfl,d,A,ar⟩
  refine o4 (sr (mv u (mv u (lv (J9 underlying9 u) (lv (u7 u u) (nq (D5 R u (fun S l=>?_) (fun S l=>?_))))))))
  ·refine j3 (qs (j7 (o4 ?_)))
   obtain⟨T,U,V⟩:=ob l
   refine l4 (IV w K [] k [(0,sv q0),(3,V6 i),(28,.bool T)] []) ?_ ?_
   ·refine j5 (mv u (mv u ?_))
    obtain⟨au,W,X⟩:=ob U
    refine lv (N9 underlying9 u u W) (lv (a8H (b:=(42:UInt8)) u u) (mv u (bt X (fun a m=>?_) (fun a m=>?_))))
    ·refine lg a (i5 u) (lg a (i5 u) ?_)
     obtain⟨aw,Y,aa⟩:=ob m
     refine lg a (N9 underlying9 u u Y) (lg a (a8H (b:=(63:UInt8)) u u) (lv (n9 u a u) (mv u (bt aa (fun c o=>?_) (fun c o=>?_)))))
     ·refine lg c (i5 u) (lg c (i5 u) (lg c (i5 u) (lg c (y7 u u) ?_)))
      obtain⟨ab,B,ac⟩:=ob o
      refine lg c (c0G underlying9 u u u B) ?_
      obtain⟨ax,ad,ae⟩:=ob ac
      refine A3 (wg u u c) u (A2 (vs:=[sv ab]) b0m u) (H9 F d.enter0 (a1V s B) ad) ?_
      rintro ay az ⟨af,rfl,C⟩
      refine⟨_,u,?_⟩
      have ag:=(d.c0 C).t0
      refine lg c (A4 u) (lv (n9 u c u) (i8 ?_))
      cases oi ae
      exact qd ⟨af,u,ag,C.le⟩
     iterate 7 refine lu c ?_
     refine lv (L8 u c u) (i8 ?_)
     cases oi o
     exact qd ⟨k,u,d,kr⟩
    refine lu a (lu a (lu a (lu a (lv (L8 u a u) (mv u ?_)))))
    iterate 7 refine lu u ?_
    refine lv (L8 u u u) (i8 ?_)
    cases oi m
    exact qd ⟨k,u,d,kr⟩
   rintro _ aA ⟨D,rfl,G,ah⟩
   refine l5 (D5 V u (fun ai q=>?_) (fun ai q=>?_))
   ·refine sr (lv (O6 u) (nq (j9 (i9 (c9 (c9 ?_))))))
    cases oi q
    cases y _ u
    refine i9 (c9 ?_)
    cases oi x
    refine c9 ?_
    cases oi f
    exact ey results207 ⟨D,u,G⟩
   refine j3 (x8 (l5 (j5 (mv u (lv (y7 u u) (av u (i8 ?_)))))))
   cases oi q
   exact qd ⟨_,u,D,u,G,(A.trans ah),(u0 _)⟩
  refine y4 (g8 (g8 ?_))
  cases oi l
  cases y _ u
  refine l6 ?_
  cases oi x
  exact qd ⟨_,k,u,u,d,A⟩
 rintro _ w9 ⟨s5,K6,rfl,rfl,H,aE⟩
 have f:=E9 f
 refine qr (mv u (lv (J9 underlying9 u) ?_))
 obtain⟨aF,aj,ak⟩:=ob f
 refine lk a7T (I9 F H.enter0 (a0Z s) (by decide :i7 1) (by decide :i7 12) aj) ?_
 rintro aG aH ⟨al,rfl,am⟩
 have an:=(H.c0 am).t0
 refine av u (nq (j9 ?_))
 cases oi ak
 exact ey results207 ⟨al,u,an⟩

theorem b3P {q0:q7}{r:Bool}(hS:SH w K [] w K [])(C:i7 q0.Kind)(k:q0.Field.length≤maxLen)(i:b7 D9 K A a b q0.Words)(l:i7 q0.From)(s:i7 q0.To)(m:b7 F4 K B c d q0.Kids)(hm:P3 F q0=some r):
  Calls prog 168 #[.agg #[V6 q0.Kind,sv q0.Field,V3 A a b,V6 q0.From,V6 q0.To,V3 B c d]] w (R_b w K r):=by
 rw [P3] at hm
 refine ci func168 u ntmps168 (sr (bx u hS fun aO eT bU=>?_))
 have f:SH _ _ _ _ _ [s7 aO [V6 q0.Kind,sv q0.Field,V3 A a b,V6 q0.From,V6 q0.To,V3 B c d] 35]:=bU
 refine lv (O6 u) (nr (fl W9 u a5u m0 f u (lv (q9 underlying33 u m) (av u (O7 (fl a6x u E6 m0 f u (nq (j7 (sr ?_)))))))))
 refine lv (A9 u u) (av u (nq (R9 u (fun aP=>?_) (fun aP=>?_))))
 ·have aQ:=a1a aP hm
  refine sr (lv (j6 (ds:=[V6 q0.Kind,sv q0.Field,V3 A a b,V6 q0.From,V6 q0.To,V3 B c d]) B1 u m0 f u u) ?_)
  obtain⟨eU,bV,bW⟩:=ob aQ
  refine lk b0k (R7 F f.enter0 C k i l s m bV) ?_
  rintro eV eW ⟨bX,rfl,bY⟩
  have bZ:=(f.c0 bY).t1
  refine av u (nq (j9 (i9 (c9 ?_))))
  cases oi bW
  exact ey results168 ⟨bX,u,bZ.s⟩
 have aQ:=a09 aP hm
 refine sr (lv (A9 u u) (av u (nq (D5 aQ u (fun ca aR=>?_) (fun ca aR=>?_)))))
 ·refine o4 ?_
  obtain⟨cb,cc,cd⟩:=ob aR
  refine l4 (IV w K [] K [(2,.bool cb)] []) ?_ ?_
  ·refine j5 (lv (j6 (ds:=[V6 q0.Kind,sv q0.Field,V3 A a b,V6 q0.From,V6 q0.To,V3 B c d]) B1 u m0 f u u) ?_)
   obtain⟨eX,ce,cf⟩:=ob cc
   refine lk b0k (R7 F f.enter0 C k i l s m ce) ?_
   rintro eY eZ ⟨cg,rfl,au⟩
   have aA:=(f.c0 au).t1
   refine mv u (bt cf (fun D aS=>?_) (fun D aS=>?_))
   ·refine lg D (c7 Z3 u) (lg D (w8 G7 u m0 aA u) ?_)
    obtain⟨fb,ch,cj⟩:=ob aS
    refine A3 (wg u u D) u (A2 (vs:=[sv q0.Field]) b0m u) (H9 F aA.enter0 k ch) ?_
    rintro fc fd ⟨ck,rfl,aB⟩
    refine⟨_,u,?_⟩
    have aC:=(aA.c0 aB).t1
    refine lv (n9 u D u) (mv u (bt cj (fun G aT=>?_) (fun G aT=>?_)))
    ·refine lg G (c7 a0B u) (lg G (w8 W1 u m0 aC u) ?_)
     obtain⟨fe,cl,cm⟩:=ob aT
     refine A3 (wg u u G) u (A2 (vs:=[V3 A a b,V6 1]) c4C u) (a4V F aC.enter0 (i.mono (au.le.trans aB.le)) (by decide :i7 1) cl) ?_
     rintro fg fh ⟨cn,rfl,bH⟩
     refine⟨_,u,?_⟩
     have cp:=(aC.c0 bH).t1
     refine lv (n9 u G u) (av u (i8 ?_))
     cases oi cm
     exact qd ⟨cn,u,cp.s,((au.le.trans aB.le).trans bH.le)⟩
    refine lu G (lu G (lu G (lv (L8 u G u) (av u (i8 ?_)))))
    cases oi aT
    exact qd ⟨ck,u,aC.s,(au.le.trans aB.le)⟩
   refine lu D (lu D (lu D (lv (L8 u D u) (mv u (lu u (lu u (lu u (lv (L8 u u u) (av u ?_)))))))))
   refine i8 ?_
   cases oi aS
   exact qd ⟨cg,u,aA.s,au.le⟩
  rintro _ fi ⟨cq,rfl,cr,fj⟩
  refine l5 (j9 (i9 (c9 ?_)))
  cases oi cd
  exact ey results168 ⟨cq,u,cr⟩
 refine sr (lv (A9 u u) (av u (nq (D5 aR u (fun cs aU=>?_) (fun cs aU=>?_)))))
 ·refine o4 ?_
  obtain⟨ct,cu,cv⟩:=ob aU
  refine l4 (IV w K [] K [(2,.bool ct)] []) ?_ ?_
  ·refine j5 (lv (j6 (ds:=[V6 q0.Kind,sv q0.Field,V3 A a b,V6 q0.From,V6 q0.To,V3 B c d]) B1 u m0 f u u) ?_)
   obtain⟨fk,cw,cx⟩:=ob cu
   refine lk b0k (R7 F f.enter0 C k i l s m cw) ?_
   rintro fm fn ⟨cy,rfl,H⟩
   have aD:=(f.c0 H).t1
   refine mv u (bt cx (fun I aV=>?_) (fun I aV=>?_))
   ·refine lg I (c7 Z3 u) (lg I (w8 G7 u m0 aD u) ?_)
    obtain⟨fo,cz,cA⟩:=ob aV
    refine A3 (wg u u I) u (A2 (vs:=[sv q0.Field]) b0m u) (H9 F aD.enter0 k cz) ?_
    rintro fp fq ⟨cB,rfl,af⟩
    refine⟨_,u,?_⟩
    have aE:=(aD.c0 af).t1
    refine lv (n9 u I u) (mv u (bt cA (fun J aW=>?_) (fun J aW=>?_)))
    ·refine lg J (c7 a0B u) (lg J (w8 W1 u m0 aE u) ?_)
     obtain⟨fr,cC,cD⟩:=ob aW
     refine A3 (wg u u J) u (A2 (vs:=[V3 A a b,V6 4]) c4C u) (a4V F aE.enter0 (i.mono (H.le.trans af.le)) (by decide :i7 4) cC) ?_
     rintro fs ft ⟨aX,rfl,ao⟩
     refine⟨_,u,?_⟩
     have ag:=(aE.c0 ao).t1
     refine lv (n9 u J u) (mv u (bt cD (fun o aY=>?_) (fun o aY=>?_)))
     ·refine lg o (c7 a0B u) (lg o (w8 W1 u m0 ag u) (lg o (q9 underlying23 u (i.mono ((H.le.trans af.le).trans ao.le))) (lg o (E7 u u) (lv (n9 u o u) (mv u (bt aY (fun O aZ=>?_) (fun O aZ=>?_)))))))
      ·refine lg O (c7 a4L u) (lg O (w8 E6 u m0 ag u) (lg O (A9 u u) (lv (n9 u O u) (mv u (bt aZ (fun R ba=>?_) (fun R ba=>?_))))))
       ·refine lg R (c7 a1w u) (lg R (w8 E6 u m0 ag u) ?_)
        obtain⟨fu,cE,cF⟩:=ob ba
        refine A3 (wg u u R) u (A2 (vs:=[V6 q0.From,V6 0,V6 5]) a7T u) (I9 F ag.enter0 l I5 (by decide :i7 5) cE) ?_
        rintro fv fw ⟨cG,rfl,bI⟩
        refine⟨_,u,?_⟩
        have cH:=(ag.c0 bI).t1
        refine lv (n9 u R u) (av u (i8 ?_))
        cases oi cF
        exact qd ⟨cG,u,cH.s,(((H.le.trans af.le).trans ao.le).trans bI.le)⟩
       refine lu R (lu R (lu R (lv (L8 u R u) (av u (i8 ?_)))))
       cases oi ba
       exact qd ⟨aX,u,ag.s,((H.le.trans af.le).trans ao.le)⟩
      refine lu O (lu O (lu O (lv (L8 u O u) (mv u (lu u (lu u (lu u (lv (L8 u u u) (av u ?_)))))))))
      refine i8 ?_
      cases oi aZ
      exact qd ⟨aX,u,ag.s,((H.le.trans af.le).trans ao.le)⟩
     refine lu o (lu o (lu o (lu o (lv (L8 u o u) (mv u (lu u (lu u (lu u (lv (L8 u u u) ?_)))))))))
     refine mv u (lu u (lu u (lu u (lv (L8 u u u) (av u (i8 ?_))))))
     cases oi aY
     exact qd ⟨aX,u,ag.s,((H.le.trans af.le).trans ao.le)⟩
    refine lu J (lu J (lu J (lv (L8 u J u) (mv u (lu u (lu u (lu u (lu u (lv (L8 u u u) ?_)))))))))
    refine mv u (lu u (lu u (lu u (lv (L8 u u u) (mv u (lu u (lu u (lu u (lv (L8 u u u) ?_)))))))))
    refine av u (i8 ?_)
    cases oi aW
    exact qd ⟨cB,u,aE.s,(H.le.trans af.le)⟩
   refine lu I (lu I (lu I (lv (L8 u I u) (mv u (lu u (lu u (lu u (lv (L8 u u u) (mv u ?_)))))))))
   refine lu u (lu u (lu u (lu u (lv (L8 u u u) (mv u (lu u (lu u (lu u (lv (L8 u u u) ?_)))))))))
   refine mv u (lu u (lu u (lu u (lv (L8 u u u) (av u (i8 ?_))))))
   cases oi aV
   exact qd ⟨cy,u,aD.s,H.le⟩
  rintro _ fx ⟨cI,rfl,cJ,fy⟩
  refine l5 (j9 (i9 (c9 ?_)))
  cases oi cv
  exact ey results168 ⟨cI,u,cJ⟩
 refine sr (lv (A9 u u) (av u (nq (D5 aU u (fun cK bb=>?_) (fun cK bb=>?_)))))
 ·refine o4 ?_
  obtain⟨cL,cM,cN⟩:=ob bb
  refine l4 (IV w K [] K [(2,.bool cL)] []) ?_ ?_
  ·refine j5 (lv (j6 (ds:=[V6 q0.Kind,sv q0.Field,V3 A a b,V6 q0.From,V6 q0.To,V3 B c d]) B1 u m0 f u u) ?_)
   obtain⟨fz,cO,cP⟩:=ob cM
   refine lk b0k (R7 F f.enter0 C k i l s m cO) ?_
   rintro fA fB ⟨cQ,rfl,ai⟩
   have aF:=(f.c0 ai).t1
   refine mv u (bt cP (fun S bc=>?_) (fun S bc=>?_))
   ·refine lg S (c7 Z3 u) (lg S (w8 G7 u m0 aF u) ?_)
    obtain⟨fC,cR,cS⟩:=ob bc
    refine A3 (wg u u S) u (A2 (vs:=[sv q0.Field]) b0m u) (H9 F aF.enter0 k cR) ?_
    rintro fD fE ⟨cT,rfl,ap⟩
    refine⟨_,u,?_⟩
    have aG:=(aF.c0 ap).t1
    refine lv (n9 u S u) (mv u (bt cS (fun T bd=>?_) (fun T bd=>?_)))
    ·refine lg T (c7 a0B u) (lg T (w8 W1 u m0 aG u) ?_)
     obtain⟨fF,cU,cV⟩:=ob bd
     refine A3 (wg u u T) u (A2 (vs:=[V3 A a b,V6 1]) c4C u) (a4V F aG.enter0 (i.mono (ai.le.trans ap.le)) (by decide :i7 1) cU) ?_
     rintro fG fH ⟨bJ,rfl,aH⟩
     refine⟨_,u,?_⟩
     have aq:=(aG.c0 aH).t1
     refine lv (n9 u T u) (mv u (bt cV (fun U be=>?_) (fun U be=>?_)))
     ·refine lg U (c7 a4L u) (lg U (w8 E6 u m0 aq u) (lg U (A9 u u) (lv (n9 u U u) (mv u (bt be (fun V bf=>?_) (fun V bf=>?_))))))
      ·refine lg V (c7 a1w u) (lg V (w8 E6 u m0 aq u) ?_)
       obtain⟨fI,cW,cX⟩:=ob bf
       refine A3 (wg u u V) u (A2 (vs:=[V6 q0.From,V6 1,V6 2]) a7T u) (I9 F aq.enter0 l (by decide :i7 1) (by decide :i7 2) cW) ?_
       rintro fJ fK ⟨cY,rfl,bK⟩
       refine⟨_,u,?_⟩
       have cZ:=(aq.c0 bK).t1
       refine lv (n9 u V u) (av u (i8 ?_))
       cases oi cX
       exact qd ⟨cY,u,cZ.s,(((ai.le.trans ap.le).trans aH.le).trans bK.le)⟩
      refine lu V (lu V (lu V (lv (L8 u V u) (av u (i8 ?_)))))
      cases oi bf
      exact qd ⟨bJ,u,aq.s,((ai.le.trans ap.le).trans aH.le)⟩
     refine lu U (lu U (lu U (lv (L8 u U u) (mv u (lu u (lu u (lu u (lv (L8 u u u) (av u ?_)))))))))
     refine i8 ?_
     cases oi be
     exact qd ⟨bJ,u,aq.s,((ai.le.trans ap.le).trans aH.le)⟩
    refine lu T (lu T (lu T (lv (L8 u T u) (mv u (lu u (lu u (lu u (lv (L8 u u u) (mv u ?_)))))))))
    refine lu u (lu u (lu u (lv (L8 u u u) (av u (i8 ?_)))))
    cases oi bd
    exact qd ⟨cT,u,aG.s,(ai.le.trans ap.le)⟩
   refine lu S (lu S (lu S (lv (L8 u S u) (mv u (lu u (lu u (lu u (lv (L8 u u u) (mv u ?_)))))))))
   refine lu u (lu u (lu u (lv (L8 u u u) (mv u (lu u (lu u (lu u (lv (L8 u u u) (av u ?_)))))))))
   refine i8 ?_
   cases oi bc
   exact qd ⟨cQ,u,aF.s,ai.le⟩
  rintro _ fL ⟨da,rfl,db,fM⟩
  refine l5 (j9 (i9 (c9 ?_)))
  cases oi cN
  exact ey results168 ⟨da,u,db⟩
 refine sr (lv (A9 u u) (av u (nq (D5 bb u (fun dc bg=>?_) (fun dc bg=>?_)))))
 ·refine o4 ?_
  obtain⟨dd,de,df⟩:=ob bg
  refine l4 (IV w K [] K [(2,.bool dd)] []) ?_ ?_
  ·refine j5 (lv (j6 (ds:=[V6 q0.Kind,sv q0.Field,V3 A a b,V6 q0.From,V6 q0.To,V3 B c d]) B1 u m0 f u u) ?_)
   obtain⟨fN,dg,dh⟩:=ob de
   refine lk b0k (R7 F f.enter0 C k i l s m dg) ?_
   rintro fO fP ⟨di,rfl,W⟩
   have aI:=(f.c0 W).t1
   refine mv u (bt dh (fun X bh=>?_) (fun X bh=>?_))
   ·refine lg X (c7 Z3 u) (lg X (w8 G7 u m0 aI u) ?_)
    obtain⟨fQ,dj,dk⟩:=ob bh
    refine A3 (wg u u X) u (A2 (vs:=[sv q0.Field]) b0m u) (H9 F aI.enter0 k dj) ?_
    rintro fR fS ⟨bL,rfl,ah⟩
    refine⟨_,u,?_⟩
    have aj:=(aI.c0 ah).t1
    refine lv (n9 u X u) (mv u (bt dk (fun q bi=>?_) (fun q bi=>?_)))
    ·refine lg q (c7 a0B u) (lg q (w8 W1 u m0 aj u) (lg q (q9 underlying23 u (i.mono (W.le.trans ah.le))) (lg q (A9 u u) (lv (n9 u q u) (mv u (bt bi (fun Y bj=>?_) (fun Y bj=>?_)))))))
     ·refine lg Y (c7 a0B u) (lg Y (w8 W1 u m0 aj u) ?_)
      obtain⟨bM,dl,dm⟩:=ob bj
      refine N1 (t:=D9) (wg u u Y) u underlying23 G7 u u (i.mono (W.le.trans ah.le)) dl fun dn dp fT dq dr=>?_
      obtain⟨rfl,dt⟩:=dq
      have du:F1 _ dn dp [sv bM]:=dr
      refine lg Y (y9 G7 u aj (du 0 _ u)) ?_
      obtain⟨fU,dv,dw⟩:=ob dm
      refine A3 (wg u u Y) u (A2 (vs:=[sv bM]) c6k u) (b1F F aj.enter0 dt dv) ?_
      rintro fV fW ⟨dx,rfl,aJ⟩
      refine⟨_,u,?_⟩
      have aw:=(aj.c0 aJ).t1
      refine lv (n9 u Y u) (mv u (bt dw (fun x bk=>?_) (fun x bk=>?_)))
      ·refine lg x (c7 a0B u) (lg x (w8 W1 u m0 aw u) ?_)
       obtain⟨bN,dy,dz⟩:=ob bk
       refine N1 (t:=D9) (wg u u x) u underlying23 G7 u u (i.mono ((W.le.trans ah.le).trans aJ.le)) dy fun dA dB fX dC dD=>?_
       obtain⟨rfl,dE⟩:=dC
       have dF:F1 _ dA dB [sv bN]:=dD
       refine lg x (y9 G7 u aw (dF 0 _ u)) ?_
       obtain⟨fY,dG,dH⟩:=ob dz
       refine A3 (wg u u x) u (A2 (vs:=[sv bN]) b0m u) (H9 F aw.enter0 dE dG) ?_
       rintro fZ ga ⟨dI,rfl,bO⟩
       refine⟨_,u,?_⟩
       have dJ:=(aw.c0 bO).t1
       refine lg x (A4 u) (lv (n9 u x u) (av u (i8 ?_)))
       cases oi dH
       exact qd ⟨dI,u,dJ.s,(((W.le.trans ah.le).trans aJ.le).trans bO.le)⟩
      iterate 6 refine lu x ?_
      refine lv (L8 u x u) (av u (i8 ?_))
      cases oi bk
      exact qd ⟨dx,u,aw.s,((W.le.trans ah.le).trans aJ.le)⟩
     iterate 5 refine lu Y ?_
     refine lv (L8 u Y u) (mv u ?_)
     iterate 6 refine lu u ?_
     refine lv (L8 u u u) (av u (i8 ?_))
     cases oi bj
     exact qd ⟨bL,u,aj.s,(W.le.trans ah.le)⟩
    refine lu q (lu q (lu q (lu q (lv (L8 u q u) (mv u ?_)))))
    iterate 5 refine lu u ?_
    refine lv (L8 u u u) (mv u ?_)
    iterate 6 refine lu u ?_
    refine lv (L8 u u u) (av u (i8 ?_))
    cases oi bi
    exact qd ⟨bL,u,aj.s,(W.le.trans ah.le)⟩
   refine lu X (lu X (lu X (lv (L8 u X u) (mv u (lu u (lu u (lu u (lu u (lv (L8 u u u) ?_)))))))))
   refine mv u ?_
   iterate 5 refine lu u ?_
   refine lv (L8 u u u) (mv u ?_)
   iterate 6 refine lu u ?_
   refine lv (L8 u u u) (av u (i8 ?_))
   cases oi bh
   exact qd ⟨di,u,aI.s,W.le⟩
  rintro _ gb ⟨dK,rfl,dL,gc⟩
  refine l5 (j9 (i9 (c9 ?_)))
  cases oi df
  exact ey results168 ⟨dK,u,dL⟩
 refine sr (lv (A9 u u) (av u (nq (D5 bg u (fun dM bl=>?_) (fun dM bl=>?_)))))
 ·refine o4 ?_
  obtain⟨dN,dO,dP⟩:=ob bl
  refine l4 (IV w K [] K [(2,.bool dN)] []) ?_ ?_
  ·refine j5 (lv (j6 (ds:=[V6 q0.Kind,sv q0.Field,V3 A a b,V6 q0.From,V6 q0.To,V3 B c d]) B1 u m0 f u u) ?_)
   obtain⟨gd,dQ,dR⟩:=ob dO
   refine lk b0k (R7 F f.enter0 C k i l s m dQ) ?_
   rintro ge gg ⟨dS,rfl,ax⟩
   have aK:=(f.c0 ax).t1
   refine mv u (bt dR (fun aa bm=>?_) (fun aa bm=>?_))
   ·refine lg aa (c7 Z3 u) (lg aa (w8 G7 u m0 aK u) ?_)
    obtain⟨gj,dT,dU⟩:=ob bm
    refine A3 (wg u u aa) u (A2 (vs:=[sv q0.Field]) b0m u) (H9 F aK.enter0 k dT) ?_
    rintro gk gl ⟨dV,rfl,aL⟩
    refine⟨_,u,?_⟩
    have aM:=(aK.c0 aL).t1
    refine lv (n9 u aa u) (mv u (bt dU (fun ab bn=>?_) (fun ab bn=>?_)))
    ·refine lg ab (c7 a1w u) (lg ab (w8 E6 u m0 aM u) ?_)
     obtain⟨gm,dW,dX⟩:=ob bn
     refine A3 (wg u u ab) u (A2 (vs:=[V6 q0.From,V6 0,V6 999999999]) a7T u) (I9 F aM.enter0 l I5 (by decide :i7 999999999) dW) ?_
     rintro go gp ⟨dY,rfl,bo⟩
     refine⟨_,u,?_⟩
     have ay:=(aM.c0 bo).t1
     refine lv (n9 u ab u) (mv u (bt dX (fun ac bp=>?_) (fun ac bp=>?_)))
     ·refine lg ac (c7 a4L u) (lg ac (w8 E6 u m0 ay u) (lg ac (c7 a1w u) (lg ac (w8 E6 u m0 ay u) ?_)))
      obtain⟨gq,dZ,ea⟩:=ob bp
      refine A3 (wg u u ac) u (A2 (vs:=[V6 q0.To,V6 q0.From,V6 999999999]) a7T u) (I9 F ay.enter0 s l (by decide :i7 999999999) dZ) ?_
      rintro gr gv ⟨eb,rfl,bP⟩
      refine⟨_,u,?_⟩
      have ec:=(ay.c0 bP).t1
      refine lv (n9 u ac u) (av u (i8 ?_))
      cases oi ea
      exact qd ⟨eb,u,ec.s,(((ax.le.trans aL.le).trans bo.le).trans bP.le)⟩
     iterate 5 refine lu ac ?_
     refine lv (L8 u ac u) (av u (i8 ?_))
     cases oi bp
     exact qd ⟨dY,u,ay.s,((ax.le.trans aL.le).trans bo.le)⟩
    refine lu ab (lu ab (lu ab (lv (L8 u ab u) (mv u ?_))))
    iterate 5 refine lu u ?_
    refine lv (L8 u u u) (av u (i8 ?_))
    cases oi bn
    exact qd ⟨dV,u,aM.s,(ax.le.trans aL.le)⟩
   refine lu aa (lu aa (lu aa (lv (L8 u aa u) (mv u (lu u (lu u (lu u (lv (L8 u u u) (mv u ?_)))))))))
   iterate 5 refine lu u ?_
   refine lv (L8 u u u) (av u (i8 ?_))
   cases oi bm
   exact qd ⟨dS,u,aK.s,ax.le⟩
  rintro _ gw ⟨ed,rfl,ee,gx⟩
  refine l5 (j9 (i9 (c9 ?_)))
  cases oi dP
  exact ey results168 ⟨ed,u,ee⟩
 refine o4 (sr (lv (A9 u u) (av u (nq ?_))))
 obtain⟨ef,eg,eh⟩:=ob bl
 refine l4 (IV w K [] K [(1,pt aO),(3,V6 (q0.Kids.length:Int)),(8,V6 q0.Kind),(132,.bool ef)] [s7 aO [V6 q0.Kind,sv q0.Field,V3 A a b,V6 q0.From,V6 q0.To,V3 B c d] 35]) ?_ ?_
 ·refine D5 eg u (fun ei bq=>?_) (fun ei bq=>?_)
  ·refine j3 ?_
   cases oi bq
   exact qd ⟨K,u,f,kr⟩
  refine j5 (lv (A9 u u) (av u (i8 ?_)))
  cases oi bq
  exact qd ⟨K,u,f,kr⟩
 rintro _ gy ⟨aN,rfl,y,ar⟩
 refine l5 (D5 eh u (fun ej br=>?_) (fun ej br=>?_))
 ·refine o4 ?_
  obtain⟨ek,el,em⟩:=ob br
  refine l4 (IV w K [] aN [(2,.bool ek)] []) ?_ ?_
  ·refine j5 (lv (j6 (ds:=[V6 q0.Kind,sv q0.Field,V3 A a b,V6 q0.From,V6 q0.To,V3 B c d]) B1 u m0 y u u) ?_)
   obtain⟨gz,en,eo⟩:=ob el
   refine lk b0k (R7 F y.enter0 C k (i.mono ar) l s (m.mono ar) en) ?_
   rintro gA gB ⟨ep,rfl,bs⟩
   have bu:=(y.c0 bs).t1
   refine mv u (bt eo (fun ak bv=>?_) (fun ak bv=>?_))
   ·refine lg ak (i5 u) ?_
    obtain⟨gC,eq,es⟩:=ob bv
    refine A3 (wg u u ak) u (A2 (vs:=[V6 (q0.Kids.length:Int),V6 2,V6 4]) a7T u) (I9 F bu.enter0 m.rn (by decide :i7 2) (by decide :i7 4) eq) ?_
    rintro gD gE ⟨et,rfl,bQ⟩
    refine⟨_,u,?_⟩
    have eu:=(bu.c0 bQ).t1
    refine lv (n9 u ak u) (av u (i8 ?_))
    cases oi es
    exact qd ⟨et,u,eu.s,(bs.le.trans bQ.le)⟩
   refine lu ak (lu ak (lv (L8 u ak u) (av u (i8 ?_))))
   cases oi bv
   exact qd ⟨ep,u,bu.s,bs.le⟩
  rintro _ gF ⟨ev,rfl,ew,gG⟩
  refine l5 (j9 (i9 (c9 ?_)))
  cases oi em
  exact ey results168 ⟨ev,u,ew⟩
 refine sr (lv (A9 u u) (av u (nq (D5 br u (fun ex bz=>?_) (fun ex bz=>?_)))))
 ·refine o4 ?_
  obtain⟨eA,eB,eC⟩:=ob bz
  refine l4 (IV w K [] aN [(2,.bool eA)] []) ?_ ?_
  ·refine j5 (lv (j6 (ds:=[V6 q0.Kind,sv q0.Field,V3 A a b,V6 q0.From,V6 q0.To,V3 B c d]) B1 u m0 y u u) ?_)
   obtain⟨gH,eD,eE⟩:=ob eB
   refine lk b0k (R7 F y.enter0 C k (i.mono ar) l s (m.mono ar) eD) ?_
   rintro gI gJ ⟨bR,rfl,bA⟩
   have bS:=(y.c0 bA).t1
   refine mv u (bt eE (fun al bB=>?_) (fun al bB=>?_))
   ·refine lg al (i5 u) (lg al (A9 u u) (lv (n9 u al u) (av u (i8 ?_))))
    cases oi bB
    exact qd ⟨bR,u,bS.s,bA.le⟩
   refine lu al (lu al (lv (L8 u al u) (av u (i8 ?_))))
   cases oi bB
   exact qd ⟨bR,u,bS.s,bA.le⟩
  rintro _ gK ⟨eF,rfl,eG,gL⟩
  refine l5 (j9 (i9 (c9 ?_)))
  cases oi eC
  exact ey results168 ⟨eF,u,eG⟩
 refine sr (lv (A9 u u) (av u (nq (D5 bz u (fun eH bC=>?_) (fun eH bC=>?_)))))
 ·refine o4 ?_
  obtain⟨eI,eJ,eK⟩:=ob bC
  refine l4 (IV w K [] aN [(2,.bool eI)] []) ?_ ?_
  ·refine j5 (lv (j6 (ds:=[V6 q0.Kind,sv q0.Field,V3 A a b,V6 q0.From,V6 q0.To,V3 B c d]) B1 u m0 y u u) ?_)
   obtain⟨gM,eL,eM⟩:=ob eJ
   refine lk b0k (R7 F y.enter0 C k (i.mono ar) l s (m.mono ar) eL) ?_
   rintro gN gO ⟨bD,rfl,az⟩
   have am:=(y.c0 az).t1
   refine mv u (bt eM (fun an bE=>?_) (fun an bE=>?_))
   ·refine lg an (i5 u) (lg an (A9 u u) (lv (n9 u an u) (mv u (bt bE (fun ad bF=>?_) (fun ad bF=>?_)))))
    ·refine lg ad (c7 a4L u) (lg ad (w8 E6 u m0 am u) (lg ad (A9 u u) (lv (n9 u ad u) (mv u (bt bF (fun ae bG=>?_) (fun ae bG=>?_))))))
     ·refine lg ae (c7 a1w u) (lg ae (w8 E6 u m0 am u) ?_)
      obtain⟨gP,eN,eO⟩:=ob bG
      refine A3 (wg u u ae) u (A2 (vs:=[V6 q0.From,V6 2,V6 9]) a7T u) (I9 F am.enter0 l (by decide :i7 2) (by decide :i7 9) eN) ?_
      rintro gQ gR ⟨eP,rfl,bT⟩
      refine⟨_,u,?_⟩
      have eQ:=(am.c0 bT).t1
      refine lv (n9 u ae u) (av u (i8 ?_))
      cases oi eO
      exact qd ⟨eP,u,eQ.s,(az.le.trans bT.le)⟩
     refine lu ae (lu ae (lu ae (lv (L8 u ae u) (av u (i8 ?_)))))
     cases oi bG
     exact qd ⟨bD,u,am.s,az.le⟩
    refine lu ad (lu ad (lu ad (lv (L8 u ad u) (mv u (lu u (lu u (lu u (lv (L8 u u u) (av u ?_)))))))))
    refine i8 ?_
    cases oi bF
    exact qd ⟨bD,u,am.s,az.le⟩
   refine lu an (lu an (lv (L8 u an u) (mv u (lu u (lu u (lu u (lv (L8 u u u) (mv u (lu u ?_)))))))))
   refine lu u (lu u (lv (L8 u u u) (av u (i8 ?_))))
   cases oi bE
   exact qd ⟨bD,u,am.s,az.le⟩
  rintro _ gS ⟨eR,rfl,eS,gT⟩
  refine l5 (j9 (i9 (c9 ?_)))
  cases oi eK
  exact ey results168 ⟨eR,u,eS⟩
 refine j3 (x8 (qr (lv (O6 u) (nq (j9 ?_)))))
 cases oi bC
 exact ey results168 ⟨aN,u,y.s⟩

theorem b5Y {q0:List Int}{r:Bool}(hS:SH w K [] w K [])(i:b7 D6 K A a b q0)(hm:a5n F q0=some r):
  Calls prog 210 #[V3 A a b] w (R_b w K r):=by
 rw [a5n] at hm
 refine ci func210 u ntmps210 (sr (lv (O6 u) (O7 (lv (N2 u) (nq ?_)))))
 obtain⟨H,I,k⟩:=ob hm
 refine l4 (IE H w K [] K [(0,V3 A a b)] []) ?_ ?_
 ·refine j7 ?_
  obtain⟨aP,J,x⟩:=ob I
  refine qw (fun (l:Int)=>IW w K [] K [(0,V3 A a b),(3,V6 l)] [] (i7 l)) J ⟨K,u,hS,kr,I5⟩ ?_
  rintro l _ aQ aR O y ⟨B,rfl,C,f,aS⟩
  refine o4 (sr (mv u (mv u (lv (q9 underlying46 u (i.mono f)) (lv (u7 u u) (nq (D5 O u (fun R m=>?_) (fun R m=>?_))))))))
  ·refine j3 (qs (j7 (o4 ?_)))
   obtain⟨S,T,U⟩:=ob m
   refine l4 (IV w K [] B [(0,V3 A a b),(3,V6 l),(31,.bool S)] []) ?_ ?_
   ·refine D4 mixed (by kernel_rfl) C (km u (km u ?_))
    obtain⟨V,W,X⟩:=ob T
    refine ki underlying46 E6 (i.mono f) W fun Y aa aT ab ac=>?_
    obtain⟨rfl,ad⟩:=ab
    have ae:F1 _ Y aa [V6 V]:=ac
    refine kh (C1 E6 u (ae 0 _ u)) ?_
    obtain⟨aU,af,ag⟩:=ob X
    refine kc a7T (fun _ _ ah aV=>(I9 F) ah.enter0 ad I5 (by decide :i7 999999999) af) (kv (A4 u) (km u (bt ag (fun d o=>?_) (fun d o=>?_))))
    ·refine kn d (kn d (kn d ?_))
     iterate 10 refine ku ?_
     refine kn d (kv (J6 u d u) (B4 ?_))
     rintro aW ⟨ai,aj,ak⟩
     cases oi o
     exact qd ⟨ai,u,aj,ak⟩
    refine kg d (i5 u) (kg d (E7 u u) (kg d (i5 u) (bt o (fun c q=>?_) (fun c q=>?_))))
    ·refine kg c (i5 u) (kg c (i5 u) ?_)
     obtain⟨al,am,an⟩:=ob q
     refine C7 (t:=D6) (wg u u c) u underlying46 E6 u u (i.mono f) am fun ao ap aX aq ar=>?_
     obtain⟨rfl,aY⟩:=aq
     have au:F1 _ ao ap [V6 al]:=ar
     refine r5 c (C1 E6 u (au 0 _ u)) (kg c (i5 u) (kg c (i5 u) (kg c (I6 u u) ?_)))
     obtain⟨aw,ax,ay⟩:=ob an
     refine C7 (t:=D6) (wg u u c) u underlying46 E6 u u (i.mono f) ax fun az aA aZ aB aC=>?_
     obtain⟨rfl,ba⟩:=aB
     have aD:F1 _ az aA [V6 aw]:=aC
     refine r5 c (C1 E6 u (aD 0 _ u)) (kg c (V2 u u) (kg d (n9 u c u) (kv (l9 u d u) (B4 ?_))))
     rintro bb ⟨aE,aF,aG⟩
     cases oi ay
     exact qd ⟨aE,u,aF,aG⟩
    iterate 10 refine kn c ?_
    refine kg d (L8 u c u) (kv (l9 u d u) (B4 ?_))
    rintro bc ⟨aH,aI,aJ⟩
    cases oi q
    exact qd ⟨aH,u,aI,aJ⟩
   rintro _ bd ⟨D,rfl,G,aK⟩
   refine l5 (D5 U u (fun aL s=>?_) (fun aL s=>?_))
   ·refine sr (lv (O6 u) (nq (j9 (i9 (c9 (c9 ?_))))))
    cases oi s
    cases y _ u
    refine i9 (c9 ?_)
    cases oi x
    refine c9 ?_
    cases oi k
    exact ey results210 ⟨D,u,G⟩
   refine j3 (x8 (l5 (j5 (mv u (lv (y7 u u) (av u (i8 ?_)))))))
   cases oi s
   exact qd ⟨_,u,D,u,G,(f.trans aK),(u0 _)⟩
  refine y4 (g8 (g8 ?_))
  cases oi m
  cases y _ u
  refine l6 ?_
  cases oi x
  exact qd ⟨_,B,u,u,C,f⟩
 rintro _ be ⟨s8,K9,rfl,rfl,aN,aO⟩
 have k:=E9 k
 refine qr (mv u (lv (q9 underlying46 u (i.mono aO)) (lv (V2 u u) (av u (nq (j9 ?_))))))
 cases oi k
 exact ey results210 ⟨K9,u,aN⟩

theorem b3Y (F:Nat): ∀{w:World} {K:F9} {d:Option Addr} {f i:Nat} {q0:List (List Int)} {q1:Int} {q2:Int} {q3:Int} {q4:Int} {r:Bool} (hS:SH w K [] w K []) (c:b7 (X2 D6) K d f i q0) (R:i7 q1) (S:i7 q2) (B:i7 q3) (C:i7 q4) (hm:Z9 F q0 q1 q2 q3 q4=some r),
  Calls prog 211 #[V3 d f i,V6 q1,V6 q2,V6 q3,V6 q4] w (R_b w K r):=by
 induction F with
 | zero=>intros;rename_i hm;rw [Z9] at hm;cases hm
 | succ F ih=>
  intro w K d f i q0 q1 q2 q3 q4 r hS c R S B C hm
  rw [Z9] at hm
  refine ci func211 u ntmps211 (sr (lv (O6 u) (O7 (mv u (mv u (lv (q9 (t:=(X2 D6)) underlying195 u c) (lv (A9 u u) (nq (R9 u (fun o=>?_) (fun o=>?_))))))))))
  ·have q:=a1a o hm
   refine sr (mv u (mv u (lv (I6 u u) (mv u (lv (q9 (t:=(X2 D6)) underlying195 u c) (lv (I6 u u) (lv (I6 u u) (mv u (lv (V2 u u) ?_)))))))))
   obtain⟨bn,T,U⟩:=ob q
   have V:=oi T
   refine lv (b9v u (congrArg (Value.bool) V)) (nq (rr ?_))
   cases oi U
   exact ey results211 ⟨K,u,hS⟩
  have q:=a09 o hm
  refine j3 (qs (sr (lv (N2 u) (nq ?_))))
  obtain⟨W,X,l⟩:=ob q
  refine l4 (IE W w K [] K [] []) ?_ ?_
  ·refine j7 ?_
   obtain⟨bo,Y,D⟩:=ob X
   refine qw (fun (m:Int)=>IW w K [] K [(0,V3 d f i),(1,V6 q1),(2,V6 q2),(3,V6 q3),(4,V6 q4),(11,V6 m)] [] (i7 m)) Y ⟨K,u,hS,kr,I5⟩ ?_
   rintro m _ bp bq aa G ⟨s,rfl,b,k,br⟩
   refine o4 (sr (mv u (mv u (mv u ?_))))
   obtain⟨bs,ab,ac⟩:=ob aa
   refine li underlying195 a1g (c.mono k) ab fun ad ae bu af ag=>?_
   obtain⟨ah,ai,aj,rfl,ak⟩:=af
   have al:F1 _ ad ae [V3 ah ai aj]:=ag
   refine lv (y9 a1g u b (al 0 _ u)) (lv (q9 underlying46 u ak) (lv (u7 u u) (nq (D5 ac u (fun am x=>?_) (fun am x=>?_)))))
   ·refine j3 (qs (j7 (o4 ?_)))
    obtain⟨an,ao,ap⟩:=ob x
    refine l4 (IV w K [] s [(0,V3 d f i),(1,V6 q1),(2,V6 q2),(3,V6 q3),(4,V6 q4),(11,V6 m),(57,.bool an)] []) ?_ ?_
    ·refine j5 (mv u (mv u ?_))
     obtain⟨bv,aq,ar⟩:=ob ao
     refine li underlying195 a1g (c.mono k) aq fun au aw bx ax ay=>?_
     obtain⟨az,aA,aB,rfl,aC⟩:=ax
     have aD:F1 _ au aw [V3 az aA aB]:=ay
     refine lv (y9 a1g u b (aD 0 _ u)) (mv u ?_)
     obtain⟨aE,aF,aG⟩:=ob ar
     refine li underlying46 E6 aC aF fun aH aI bz aJ aK=>?_
     obtain⟨rfl,bA⟩:=aJ
     have aL:F1 _ aH aI [V6 aE]:=aK
     refine lv (y9 E6 u b (aL 0 _ u)) (mv u (lv (E7 u u) (mv u (bt aG (fun a y=>?_) (fun a y=>?_)))))
     ·refine lg a (i5 u) (lg a (i5 u) (lg a (y7 u u) (lg a (i5 u) (lg a (i5 u) ?_))))
      obtain⟨bB,aM,aN⟩:=ob y
      refine N1 (t:=(X2 D6)) (wg u u a) u underlying195 a1g u u (c.mono k) aM fun aO aP bC aQ aR=>?_
      obtain⟨aS,aT,aU,rfl,aV⟩:=aQ
      have aW:F1 _ aO aP [V3 aS aT aU]:=aR
      refine lg a (y9 a1g u b (aW 0 _ u)) (lg a (i5 u) ?_)
      obtain⟨H,aX,aY⟩:=ob aN
      refine N1 (t:=D6) (wg u u a) u underlying46 E6 u u aV aX fun aZ ba bD bb bc=>?_
      obtain⟨rfl,bd⟩:=bb
      have be:F1 _ aZ ba [V6 H]:=bc
      refine lg a (y9 E6 u b (be 0 _ u)) (lg a (i5 u) (lg a (i5 u) ?_))
      obtain⟨bE,bf,bg⟩:=ob aY
      refine A3 (wg u u a) u (A2 (vs:=[V3 d f i,V6 (z8 (q1+(1:Int))),V6 H,V6 q3,V6 q4]) c32 u) (ih b.enter0 (c.mono k) (u0 _) bd B C bf) ?_
      rintro bF bG ⟨bh,rfl,I⟩
      refine⟨_,u,?_⟩
      have bi:=(b.c0 I).t0
      refine lv (n9 u a u) (i8 ?_)
      cases oi bg
      exact qd ⟨bh,u,bi,I.le⟩
     iterate 13 refine lu a ?_
     refine lv (L8 u a u) (i8 ?_)
     cases oi y
     exact qd ⟨s,u,b,kr⟩
    rintro _ bH ⟨J,rfl,O,bj⟩
    refine l5 (D5 ap u (fun bk A=>?_) (fun bk A=>?_))
    ·refine sr (lv (r_t u) (nq (j9 (i9 (c9 (c9 ?_))))))
     cases oi A
     cases G _ u
     refine i9 (c9 ?_)
     cases oi D
     refine c9 ?_
     cases oi l
     exact ey results211 ⟨J,u,O⟩
    refine j3 (x8 (l5 (j5 (mv u (lv (y7 u u) (av u (i8 ?_)))))))
    cases oi A
    exact qd ⟨_,u,J,u,O,(k.trans bj),(u0 _)⟩
   refine y4 (g8 (g8 ?_))
   cases oi x
   cases G _ u
   refine l6 ?_
   cases oi D
   exact L6 ⟨_,s,u,u,b,k⟩ trivial
  rintro _ bI ⟨bJ,bl,rfl,rfl,bm,bK⟩
  have l:=E9 l
  refine qr (lv (O6 u) (nq (j9 ?_)))
  cases oi l
  exact ey results211 ⟨bl,u,bm⟩

theorem b1C {q0:List (List Int)}{q1:Int}{r:(List Int)}(hS:SH w K [] w K [])(c:b7 (X2 D6) K A a b q0)(ah:i7 q1)(hm:a18 F q0 q1=some r):
  Calls prog 175 #[V3 A a b,V6 q1] w fun e w'=>∃a_1 n_2 c_3 K',e= .returned (V3 a_1 n_2 c_3)∧SH w K [] w' K' [tail (V3 a_1 n_2 c_3) 3 1]∧b7 D6 K' a_1 n_2 c_3 r:=by
 rw [a18] at hm
 refine ci func175 u ntmps175 (sr (lv (r_n u) (nr (b0 D6 underlying46 E6 hS fun l w7 U d ar au=>(av u (O7 (lv (N2 u) (nq ?_))))))))
 obtain⟨aw,ax,H⟩:=ob hm
 refine l4 (IE aw w K [] U [(0,V3 A a b),(1,V6 q1),(5,V3 l 0 0)] [tail (V3 l 0 0) 3 1]) ?_ ?_
 ·refine j7 ?_
  obtain⟨dd,ay,ai⟩:=ob ax
  refine qw (fun (V:Int)=>IW w K [] U [(0,V3 A a b),(1,V6 q1),(5,V3 l 0 0),(6,V6 V)] [tail (V3 l 0 0) 3 1] (i7 V)) ay ⟨U,u,au,kr,I5⟩ ?_
  rintro V _ de df az aj ⟨aA,rfl,I,J,dg⟩
  refine o4 (sr (mv u (mv u (lv (q9 (t:=(X2 D6)) underlying195 u (c.mono (d.trans J))) (lv (u7 u u) (nq (D5 az u (fun aB W=>?_) (fun aB W=>?_))))))))
  ·refine j3 (qs (j7 (sr (mv u (mv u ?_)))))
   obtain⟨dh,aC,aD⟩:=ob W
   refine li underlying195 a1g (c.mono (d.trans J)) aC fun aE aF di aG aH=>?_
   obtain⟨aI,aJ,aK,rfl,aL⟩:=aG
   have aM:F1 _ aE aF [V3 aI aJ aK]:=aH
   refine lv (y9 a1g u I (aM 0 _ u)) ?_
   obtain⟨dj,aN,aO⟩:=ob aD
   refine lk c6n (b5Y F I.enter0 aL aN) ?_
   rintro dk dl ⟨ak,rfl,al⟩
   have am:=(I.c0 al).t1
   refine lv (A4 u) (nq (D5 aO u (fun aP X=>?_) (fun aP X=>?_)))
   ·refine sr (lv (r_n u) (nq (j9 (i9 (c9 (c9 ?_))))))
    cases oi X
    cases aj _ u
    refine i9 (c9 ?_)
    cases oi ai
    refine c9 ?_
    cases oi H
    have aQ:=am.nil 3 1
    exact ey results175 ⟨none,0,0,ak,u,aQ.s,(b7.nil _ _)⟩
   refine j3 (x8 (l5 (j5 (mv u (lv (y7 u u) (av u (i8 ?_)))))))
   cases oi X
   exact qd ⟨_,u,ak,u,am,(J.trans al.le),(u0 _)⟩
  refine y4 (g8 (g8 ?_))
  cases oi W
  cases aj _ u
  refine l6 ?_
  cases oi ai
  exact qd ⟨_,aA,u,u,I,J⟩
 rintro _ dm ⟨dn,aR,rfl,rfl,an,i⟩
 have H:=E9 H
 refine qs (o4 ?_)
 obtain⟨aS,aT,aU⟩:=ob H
 refine l4 (IV w K [] aR [(0,V3 A a b),(1,V6 q1),(5,V3 l 0 0),(29,.bool aS)] [tail (V3 l 0 0) 3 1]) ?_ ?_
 ·refine j5 (mv u (lv (q9 (t:=(X2 D6)) underlying195 u (c.mono (d.trans i))) ?_))
  obtain⟨dp,aV,aW⟩:=ob aT
  refine lk a7T (I9 F an.enter0 (c.mono (d.trans i)).rn (by decide :i7 1) (by decide :i7 6) aV) ?_
  rintro dq dr ⟨aX,rfl,Y⟩
  have aa:=(an.c0 Y).t1
  refine lv (A4 u) (mv u (bt aW (fun f ab=>?_) (fun f ab=>?_)))
  ·refine lu f (lu f (lu f (lv (J6 u f u) (i8 ?_))))
   cases oi ab
   exact qd ⟨aX,u,aa,Y.le⟩
  refine lg f (i5 u) ?_
  obtain⟨ds,aY,aZ⟩:=ob ab
  refine A3 (wg u u f) u (A2 (vs:=[V6 q1,V6 0,V6 5]) a7T u) (I9 F aa.enter0 ah I5 (by decide :i7 5) aY) ?_
  rintro dt du ⟨ba,rfl,ao⟩
  refine⟨_,u,?_⟩
  have bb:=(aa.c0 ao).t1
  refine lg f (A4 u) (lv (l9 u f u) (i8 ?_))
  cases oi aZ
  exact qd ⟨ba,u,bb,(Y.le.trans ao.le)⟩
 rintro _ dv ⟨O,rfl,ap,m⟩
 refine l5 (D5 aU u (fun bc ac=>?_) (fun bc ac=>?_))
 ·refine sr (lv (r_n u) (nq (rr ?_)))
  cases oi ac
  have bd:=ap.nil 3 1
  exact ey results175 ⟨none,0,0,O,u,bd.s,(b7.nil _ _)⟩
 refine j3 (qs (sr (lv (N2 u) (nq ?_))))
 obtain⟨be,bf,bg⟩:=ob ac
 refine l4 (fun E' w'=>∃x y B C,E'=[(5,V3 x y B)]∧SH w K [] w' C [tail (V3 x y B) 3 1]∧M0 O C∧b7 D6 C x y B be) ?_ ?_
 ·refine j7 ?_
  obtain⟨dw,bh,bi⟩:=ob bf
  refine qw (fun (R:(List Int)×Int) E' w'=>∃o q s D,E'=[(0,V3 A a b),(1,V6 q1),(5,V3 o q s),(7,V6 R.2)]∧SH w K [] w' D [tail (V3 o q s) 3 1]∧M0 O D∧b7 D6 D o q s R.1∧i7 R.2) bh ⟨l,0,0,O,u,ap,kr,(ar.mono (i.trans m)),I5⟩ ?_
  rintro R _ dx dy bj bk ⟨o,q,s,D,rfl,ad,k,ae,dz⟩
  refine o4 (sr (mv u (mv u ?_)))
  obtain⟨dA,bl,bm⟩:=ob bj
  refine li underlying195 a1g (b7.mono (((d.trans i).trans m).trans k) c) bl fun bn bo dB bp bq=>?_
  obtain⟨br,bs,bu,rfl,bv⟩:=bp
  have bx:F1 _ bn bo [V3 br bs bu]:=bq
  refine lv (y9 a1g u ad (bx 0 _ u)) (lv (q9 underlying46 u bv) (lv (u7 u u) (nq (D5 bm u (fun bz af=>?_) (fun bz af=>?_)))))
  ·refine j3 (qs (j7 (o4 (D4 mixed (by kernel_rfl) ad (km u (km u ?_))))))
   obtain⟨dC,bA,bB⟩:=ob af
   refine ki underlying195 a1g (b7.mono (((d.trans i).trans m).trans k) c) bA fun bC bD dD bE bF=>?_
   obtain⟨bG,bH,bI,rfl,bJ⟩:=bE
   have bK:F1 _ bC bD [V3 bG bH bI]:=bF
   refine kh (C1 a1g u (bK 0 _ u)) (km u ?_)
   obtain⟨bL,bM,bN⟩:=ob bB
   refine ki underlying46 E6 bJ bM fun bO bP dE bQ bR=>?_
   obtain⟨rfl,bS⟩:=bQ
   have bT:F1 _ bO bP [V6 bL]:=bR
   refine kh (C1 E6 u (bT 0 _ u)) (km u ?_)
   obtain⟨dF,bU,bV⟩:=ob bN
   refine ki underlying195 a1g (b7.mono (((d.trans i).trans m).trans k) c) bU fun bW bX dG bY bZ=>?_
   obtain⟨ca,cb,cc,rfl,cd⟩:=bY
   have ce:F1 _ bW bX [V3 ca cb cc]:=bZ
   refine kh (C1 a1g u (ce 0 _ u)) (km u ?_)
   obtain⟨cf,cg,ch⟩:=ob bV
   refine ki underlying46 E6 cd cg fun cj ck dH cl cm=>?_
   obtain⟨rfl,cn⟩:=cl
   have cp:F1 _ cj ck [V6 cf]:=cm
   refine kh (C1 E6 u (cp 0 _ u)) (km u ?_)
   obtain⟨dI,cq,cr⟩:=ob ch
   refine kc c32 (fun _ _ cs ct=>(b3Y F) cs.enter0 (b7.mono ((((d.trans i).trans m).trans k).trans ct) c) (by decide :i7 1) bS cn ah cq) (B4 ?_)
   rintro dJ ⟨cu,S,G⟩
   refine l5 (D5 cr u (fun cv ag=>?_) (fun cv ag=>?_))
   ·refine j5 (mv u (mv u ?_))
    obtain⟨dK,cw,cx⟩:=ob ag
    refine li underlying195 a1g (b7.mono ((((d.trans i).trans m).trans k).trans G) c) cw fun cy cz dL cA cB=>?_
    obtain⟨cC,cD,cE,rfl,cF⟩:=cA
    have cG:F1 _ cy cz [V3 cC cD cE]:=cB
    refine lv (y9 a1g u S (cG 0 _ u)) (mv u ?_)
    obtain⟨T,cH,cI⟩:=ob cx
    refine li underlying46 E6 cF cH fun cJ cK dM cL cM=>?_
    obtain⟨rfl,cN⟩:=cL
    have cO:F1 _ cJ cK [V6 T]:=cM
    refine lv (y9 E6 u S (cO 0 _ u)) (lb D6 (V6 T) [V6 T] T underlying46 E6 ⟨u,cN⟩ S fun dN dO dP aq cP cQ=>?_)
    obtain⟨dQ,cR,cS⟩:=ob cI
    refine lp underlying46 E6 (ae.mono (G.trans aq)) cP cR cQ.f1 fun cT cU cV dR cW cX cY cZ=>(av u (nb (l5 (j5 (mv u (lv (y7 u u) (av u (i8 ?_))))))))
    cases oi cS
    exact qd ⟨_,u,cT,cU,cV,cW,u,cZ.s,(((k.trans G).trans aq).trans cX),cY,(u0 _)⟩
   refine j3 (x8 (l5 (j5 (mv u (lv (y7 u u) (av u (i8 ?_)))))))
   cases oi ag
   exact qd ⟨_,u,o,q,s,cu,u,S,(k.trans G),(ae.mono G),(u0 _)⟩
  refine y4 (g8 (g8 ?_))
  cases oi af
  cases bk _ u
  refine l6 ?_
  cases oi bi
  exact qd ⟨o,q,s,D,u,ad,k,ae⟩
 rintro _ dS ⟨x,y,B,C,rfl,da,dT,db⟩
 refine qr (mv u (av u (nq (j9 ?_))))
 cases oi bg
 exact ey results175 ⟨x,y,B,C,u,da,db⟩

theorem a7K {q0:Bool}{r:Int}(hS:SH w K [] w K [])(hm:a1p F q0=some r):
  Calls prog 133 #[.bool q0] w (R_i w K r):=by
 rw [a1p] at hm
 refine ci func133 u ntmps133 (sr (lv (N2 u) (O7 (mv u (nq (R9 u (fun a=>?_) (fun a=>?_)))))))
 ·have b:=a1a a hm
  refine sr (lv (u9 (v:=V6 100) u) (nq (rr ?_)))
  cases oi b
  exact ey results133 ⟨K,u,hS,(by decide :i7 100)⟩
 have b:=a09 a hm
 refine j3 (qr (lv (N2 u) (nq (j9 ?_))))
 cases oi b
 exact ey results133 ⟨K,u,hS,I5⟩
end Go.Proofs.YtnloenhmkdpgeaaGreatDoor
