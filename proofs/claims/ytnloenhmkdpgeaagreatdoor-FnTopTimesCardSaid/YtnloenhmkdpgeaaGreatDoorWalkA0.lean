/-
 Walks of the functions. Printed by gen.py.
-/
import Derived.Test.YtnloenhmkdpgeaaGreatDoorFacts
set_option linter.unusedVariables false
set_option linter.unusedSectionVars false
set_option maxRecDepth 100000
namespace Go.Proofs.YtnloenhmkdpgeaaGreatDoor
set_option maxHeartbeats 4000000
open Go Go.Fk Go.RowKit Tryz
variable (F:Nat){w:World}{K:F9}{Z:List Nat}{g1 g2 g3:Nat}{A B C D G H I J O R S T:Option Addr}{a b c d f i k l m n o p q s v x y aa ab ac ad ae af ag:Nat}
variable [dr:Dr]

theorem E2 {q0:Int}{q1:Int}{q2:Int}{r:Bool}(hS:SH w K [] w K [])(c:i7 q0)(d:i7 q1)(f:i7 q2)(hm:B3 F q0 q1 q2=some r):
  Calls prog 74 #[V6 q0,V6 q1,V6 q2] w (R_b w K r):=by
 rw [B3] at hm
 refine ci func74 u ntmps74 (sr (lv (O6 u) (nr (mv u (mv u (lv (a3B u u) (mv u (bt hm (fun a b=>?_) (fun a b=>?_)))))))))
 ·refine lg a (i5 u) (lg a (i5 u) (lg a (V2 u u) (lv (n9 u a u) (av u (nq (j9 ?_))))))
  cases oi b
  exact ey results74 ⟨K,u,hS⟩
 refine lu a (lu a (lu a (lv (L8 u a u) (av u (nq (j9 ?_))))))
 cases oi b
 exact ey results74 ⟨K,u,hS⟩

theorem a3p {q0:UInt8}{r:Bool}(hS:SH w K [] w K [])(hm:U1 F q0=some r):
  Calls prog 122 #[iv8 q0] w (R_b w K r):=by
 rw [U1] at hm
 refine ci func122 u ntmps122 (sr (lv (O6 u) (nr (mv u (lv (a8F (b:=(97:UInt8)) u u) (mv u (bt hm (fun c i=>?_) (fun c i=>?_))))))))
 ·refine lg c (i5 u) (lg c (a8G (b:=(122:UInt8)) u u) (lv (n9 u c u) (mv u (bt i (fun a k=>?_) (fun a k=>?_)))))
  ·refine lu a (lu a (lu a (A8 (uu u u) u (A8 (uu u u) u (lu a (lv (J6 u a u) (av u (nq (j9 ?_)))))))))
   cases oi k
   exact ey results122 ⟨K,u,hS⟩
  refine lg a (i5 u) (lg a (a8F (b:=(48:UInt8)) u u) (lg a (i5 u) (bt k (fun d l=>?_) (fun d l=>?_))))
  ·refine lg d (i5 u) (lg d (a8G (b:=(57:UInt8)) u u) (lg a (n9 u d u) (lv (l9 u a u) (av u (nq (j9 ?_))))))
   cases oi l
   exact ey results122 ⟨K,u,hS⟩
  refine lu d (lu d (lg a (L8 u d u) (lv (l9 u a u) (av u (nq (j9 ?_))))))
  cases oi l
  exact ey results122 ⟨K,u,hS⟩
 refine lu c (lu c (lv (L8 u c u) (mv u (lg u (i5 u) (lg u (a8F (b:=(48:UInt8)) u u) (lg u (i5 u) (bt i (fun f m=>?_) (fun f m=>?_))))))))
 ·refine lg f (i5 u) (lg f (a8G (b:=(57:UInt8)) u u) (lg u (n9 u f u) (lv (l9 u u u) (av u (nq (j9 ?_))))))
  cases oi m
  exact ey results122 ⟨K,u,hS⟩
 refine lu f (lu f (lg u (L8 u f u) (lv (l9 u u u) (av u (nq (j9 ?_))))))
 cases oi m
 exact ey results122 ⟨K,u,hS⟩

theorem J5 {q0:r4}{r:Bool}(hS:SH w K [] w K [])(f:q0.length≤maxLen)(hm:H1 F q0=some r):
  Calls prog 66 #[sv q0] w (R_b w K r):=by
 rw [H1] at hm
 refine ci func66 u ntmps66 (sr (lv (O6 u) (O7 (mv u (lv (J9 underlying9 u) (lv (r_m u) (nq ?_)))))))
 obtain⟨y,A,a⟩:=ob hm
 refine l4 (IE y w K [] K [(0,sv q0)] []) ?_ ?_
 ·refine j7 ?_
  obtain⟨Y,B,i⟩:=ob A
  refine qf (fun (k:Nat) (l:Unit)=>IV w K [] K [(0,sv q0),(5,V6 (q0.length:Int)),(6,V6 ((k:Nat):Int))] []) B ⟨K,u,hS,kr⟩ ?_ ?_
  ·rintro k l _ C aa hi21 D G ⟨m,rfl,b,c⟩
   refine sr (lv (u7 u u) (ns (C9 u (b8 (by omega)) (j3 (l5 (o4 (j7 (sr (mv u (av u (nr (mv u ?_))))))))))))
   refine mv u ?_
   obtain⟨ab,H,I⟩:=ob D
   refine lv (N9 underlying9 u u H) ?_
   obtain⟨ac,J,O⟩:=ob I
   refine lk b81 (a3p F b.enter0 J) ?_
   rintro ad ae ⟨o,rfl,q⟩
   have s:=(b.c0 q).t0
   refine lv (A4 u) (nq (D5 O u (fun R d=>?_) (fun R d=>?_)))
   ·refine sr (lv (O6 u) (nq (j9 (i9 (c9 (c9 ?_))))))
    cases oi d
    cases G _ u
    refine i9 (c9 ?_)
    cases oi i
    refine c9 ?_
    cases oi a
    exact ey results66 ⟨o,u,s⟩
   refine j3 (x8 (qg (lv (B6 u u (C6 hi21 f)) (mv u (i8 ?_)))))
   cases oi d
   exact qd ⟨_,u,o,u,s,(c.trans q.le)⟩
  rintro l _ C S ⟨m,rfl,b,c⟩
  subst S
  refine sr (lv (u7 u u) (ns (C8 u (c6 (by omega)) (y4 (g8 (g8 (l6 ?_)))))))
  cases oi i
  exact qd ⟨_,m,u,u,b,c⟩
 rintro _ w9 ⟨s5,K6,rfl,rfl,x,ai⟩
 have a:=E9 a
 refine qr (mv u (lv (J9 underlying9 u) ?_))
 obtain⟨aj,T,U⟩:=ob a
 refine lk a5x (E2 F x.enter0 (a0Z f) (by decide :i7 1) (by decide :i7 12) T) ?_
 rintro ak al ⟨V,rfl,W⟩
 have X:=(x.c0 W).t0
 refine av u (nq (j9 ?_))
 cases oi U
 exact ey results66 ⟨V,u,X⟩

theorem a7s {q0:List r4}{q1:r4}{r:Int}(hS:SH w K [] w K [])(d:b7 D9 K A a b q0)(Y:q1.length≤maxLen)(hm:a0z F q0 q1=some r):
  Calls prog 138 #[V3 A a b,sv q1] w (R_i w K r):=by
 rw [a0z] at hm
 refine ci func138 u ntmps138 (sr (lv (N2 u) (O7 (mv u (lv (q9 underlying23 u d) (lv (r_m u) (nq ?_)))))))
 obtain⟨s,x,f⟩:=ob hm
 refine l4 (IE s w K [] K [] []) ?_ ?_
 ·refine j7 ?_
  obtain⟨aa,y,m⟩:=ob x
  refine qf (fun (o:Nat) (q:Unit)=>IV w K [] K [(0,V3 A a b),(1,sv q1),(7,V6 (q0.length:Int)),(8,V6 ((o:Nat):Int))] []) y ⟨K,u,hS,kr⟩ ?_ ?_
  ·rintro o q _ B ab hi24 C D ⟨i,rfl,c,k⟩
   refine sr (lv (u7 u u) (ns (C9 u (b8 (by omega)) (j3 (l5 (o4 (j7 (sr (mv u (av u (nr (mv u ?_))))))))))))
   refine mv u (mv u ?_)
   obtain⟨G,H,I⟩:=ob C
   refine li underlying23 G7 (d.mono k) H fun J O ac R S=>?_
   obtain⟨rfl,ad⟩:=R
   have T:F1 _ J O [sv G]:=S
   refine lv (y9 G7 u c (T 0 _ u)) (lv (J8 u u) (nq (D5 I u (fun U l=>?_) (fun U l=>?_))))
   ·refine sr (mv u (av u (nq (j9 (i9 (c9 (c9 ?_)))))))
    cases oi l
    cases D _ u
    refine i9 (c9 ?_)
    cases oi m
    refine c9 ?_
    cases oi f
    exact ey results138 ⟨i,u,c,(b28 hi24 (b7.max d))⟩
   refine j3 (x8 (qg (lv (B6 u u (C6 hi24 (b7.max d))) (mv u (i8 ?_)))))
   cases oi l
   exact qd ⟨_,u,i,u,c,k⟩
  rintro q _ B V ⟨i,rfl,c,k⟩
  subst V
  refine sr (lv (u7 u u) (ns (C8 u (c6 (by omega)) (y4 (g8 (g8 (l6 ?_)))))))
  cases oi m
  exact L6 ⟨_,i,u,u,c,k⟩ trivial
 rintro _ ae ⟨s9,W,rfl,rfl,X,ag⟩
 have f:=E9 f
 refine qr (lv (u9 (v:=V6 (-1)) u) (nq (j9 ?_)))
 cases oi f
 exact ey results138 ⟨W,u,X,(by decide :i7 (-1))⟩

theorem a0F {q0:List r4}{q1:r4}{r:Bool}(hS:SH w K [] w K [])(c:b7 D9 K A a b q0)(d:q1.length≤maxLen)(hm:L2 F q0 q1=some r):
  Calls prog 80 #[V3 A a b,sv q1] w (R_b w K r):=by
 rw [L2] at hm
 refine ci func80 u ntmps80 (sr (lv (O6 u) (nr (mv u (mv u ?_)))))
 obtain⟨o,f,i⟩:=ob hm
 refine lk c5K (a7s F hS.enter0 c d f) ?_
 rintro q s ⟨k,rfl,l,x⟩
 have m:=(hS.c0 l).t0
 refine lv (a3B u u) (av u (nq (j9 ?_)))
 cases oi i
 exact ey results80 ⟨k,u,m⟩

theorem a9l {q0:List r4}{r:Bool}(hS:SH w K [] w K [])(l:b7 D9 K A a b q0)(hm:a0k F q0=some r):
  Calls prog 108 #[V3 A a b] w (R_b w K r):=by
 rw [a0k] at hm
 refine ci func108 u ntmps108 (sr (lv (O6 u) (O7 (mv u (lv (q9 underlying23 u l) (lv (r_m u) (nq ?_)))))))
 obtain⟨J,O,m⟩:=ob hm
 refine l4 (IE J w K [] K [] []) ?_ ?_
 ·refine j7 ?_
  obtain⟨aA,R,D⟩:=ob O
  refine qf (fun (q:Nat) (G:Unit)=>IV w K [] K [(0,V3 A a b),(5,V3 A a b),(6,V6 (q0.length:Int)),(7,V6 ((q:Nat):Int))] []) R ⟨K,u,hS,kr⟩ ?_ ?_
  ·rintro q G _ S aB hi23 T U ⟨s,rfl,f,i⟩
   refine sr (lv (u7 u u) (ns (C9 u (b8 (by omega)) (j3 (l5 (o4 (j7 (sr (mv u ?_)))))))))
   obtain⟨V,W,X⟩:=ob T
   refine li underlying23 G7 (l.mono i) W fun Y aa aC ab ac=>?_
   obtain⟨rfl,ad⟩:=ab
   have ae:F1 _ Y aa [sv V]:=ac
   refine lv (y9 G7 u f (ae 0 _ u)) (av u (av u (ns ?_)))
   obtain⟨af,ag,ah⟩:=ob X
   refine l4 (IV w K [] s [(0,V3 A a b),(5,V3 A a b),(6,V6 (q0.length:Int)),(7,V6 ((q:Nat):Int)),(27,.bool af)] []) ?_ ?_
   ·refine j5 (mv u ?_)
    obtain⟨aD,ai,aj⟩:=ob ag
    refine lk b0l (J5 F f.enter0 ad ai) ?_
    rintro aE aF ⟨x,rfl,k⟩
    have o:=(f.c0 k).t0
    refine lv (A4 u) (mv u (bt aj (fun c y=>?_) (fun c y=>?_)))
    ·refine lu c (lu c (lu c (A8 (uu u u) u (A8 (uu u u) u (A8 (uu u u) u (A8 (uu u u) u (A8 (uu u u) u (A8 (uu u u) u (A8 (uu u u) u ?_)))))))))
     refine lu c (lv (J6 u c u) (i8 ?_))
     cases oi y
     exact qd ⟨x,u,o,k.le⟩
    refine lg c (i5 u) (lg c (E7 u u) (lg c (i5 u) (bt y (fun d B=>?_) (fun d B=>?_))))
    ·refine lg d (i5 u) (lg d (i5 u) (lg d (I6 u u) ?_))
     obtain⟨ak,al,am⟩:=ob B
     refine N1 (t:=D9) (wg u u d) u underlying23 G7 u u (l.mono (i.trans k.le)) al fun an ao aG ap aq=>?_
     obtain⟨rfl,aH⟩:=ap
     have ar:F1 _ an ao [sv ak]:=aq
     refine lg d (y9 G7 u o (ar 0 _ u)) (lg d (i5 u) (lg d (b52 u u) (lg c (n9 u d u) (lv (l9 u c u) (i8 ?_)))))
     cases oi am
     exact qd ⟨x,u,o,k.le⟩
    iterate 7 refine lu d ?_
    refine lg c (L8 u d u) (lv (l9 u c u) (i8 ?_))
    cases oi B
    exact qd ⟨x,u,o,k.le⟩
   rintro _ aI ⟨H,rfl,I,au⟩
   refine l5 (D5 ah u (fun aw C=>?_) (fun aw C=>?_))
   ·refine sr (lv (O6 u) (nq (j9 (i9 (c9 (c9 ?_))))))
    cases oi C
    cases U _ u
    refine i9 (c9 ?_)
    cases oi D
    refine c9 ?_
    cases oi m
    exact ey results108 ⟨H,u,I⟩
   refine j3 (x8 (qg (lv (B6 u u (C6 hi23 (b7.max l))) (mv u (i8 ?_)))))
   cases oi C
   exact qd ⟨_,u,H,u,I,(i.trans au)⟩
  rintro G _ S ax ⟨s,rfl,f,i⟩
  subst ax
  refine sr (lv (u7 u u) (ns (C8 u (c6 (by omega)) (y4 (g8 (g8 (l6 ?_)))))))
  cases oi D
  exact L6 ⟨_,s,u,u,f,i⟩ trivial
 rintro _ aJ ⟨s8,K9,rfl,rfl,az,aL⟩
 have m:=E9 m
 refine qr (lv (r_t u) (nq (j9 ?_)))
 cases oi m
 exact ey results108 ⟨K9,u,az⟩

theorem a6H {q0:r4}{q1:r4}{r:Bool}(hS:SH w K [] w K [])(f:q0.length≤maxLen)(i:q1.length≤maxLen)(hm:X6 F q0 q1=some r):
  Calls prog 185 #[sv q0,sv q1] w (R_b w K r):=by
 rw [X6] at hm
 refine ci func185 u ntmps185 (sr (lv (O6 u) (nr (mv u (lv (J9 underlying9 u) (mv u (lv (J9 underlying9 u) (lv (a3B u u) (mv u ?_)))))))))
 refine bt hm (fun a b=>?_) (fun a b=>?_)
 ·refine lg a (i5 u) (lg a (i5 u) (lg a (J9 underlying9 u) (lg a (i5 u) (lg a (J9 underlying9 u) (lg a (I6 u u) ?_)))))
  obtain⟨k,c,d⟩:=ob b
  refine lg a (a00 underlying9 u u c) (lg a (i5 u) (lg a (J8 u u) (lv (n9 u a u) (av u (nq (j9 ?_))))))
  cases oi d
  exact ey results185 ⟨K,u,hS⟩
 iterate 9 refine lu a ?_
 refine lv (L8 u a u) (av u (nq (j9 ?_)))
 cases oi b
 exact ey results185 ⟨K,u,hS⟩

theorem a8C {q0:r4}{q1:r4}{r:Bool}(hS:SH w K [] w K [])(a:q0.length≤maxLen)(b:q1.length≤maxLen)(hm:Y4 F q0 q1=some r):
  Calls prog 150 #[sv q0,sv q1] w (R_b w K r):=by
 rw [Y4] at hm
 refine ci func150 u ntmps150 (sr (lv (O6 u) (nr (mv u (mv u ?_)))))
 obtain⟨l,c,d⟩:=ob hm
 refine lk c6e (a6H F hS.enter0 a b c) ?_
 rintro m o ⟨f,rfl,i⟩
 have k:=(hS.c0 i).t0
 refine av u (nq (j9 ?_))
 cases oi d
 exact ey results150 ⟨f,u,k⟩

theorem a4x {q0:r4}{r:r4}(hS:SH w K [] w K [])(D:q0.length≤maxLen)(hm:Z6 F q0=some r):
  Calls prog 109 #[sv q0] w fun e w'=>∃K',e= .returned (sv r)∧SH w K [] w' K' []∧r.length≤maxLen:=by
 rw [Z6] at hm
 refine ci func109 u ntmps109 (sr (lv (r_s u) (O7 (mv u ?_))))
 obtain⟨r2,ab,h4⟩:=ob hm
 refine lk b0l (J5 F hS.enter0 D ab) ?_
 rintro e8 w6 ⟨i,rfl,ad⟩
 have G:=(hS.c0 ad).t0
 refine lv (A4 u) (nq (D5 h4 u (fun ae l=>?_) (fun ae l=>?_)))
 ·refine sr (lv (r_s u) (nq (rr ?_)))
  cases oi l
  exact ey results109 ⟨i,u,G,(by decide :([]:r4).length≤maxLen)⟩
 refine j3 (qs (sr (lv (r_t u) (nq ?_))))
 obtain⟨H,af,ag⟩:=ob l
 refine l4 (IW w K [] i [(0,sv H)] [] (H.length≤maxLen)) ?_ ?_
 ·refine j7 ?_
  obtain⟨aZ,ah,ai⟩:=ob af
  refine qw (fun (k:r4×Bool)=>IW w K [] i [(0,sv k.1),(3,.bool k.2)] [] (k.1.length≤maxLen)) ah ⟨i,u,G,kr,D⟩ ?_
  rintro k _ ba bb aj ak ⟨al,rfl,I,J,O⟩
  refine o4 (sr (mv u (nq (D5 aj u (fun am m=>?_) (fun am m=>?_)))))
  ·refine j3 (l5 (j7 (sr (lv (O6 u) (nr (bw [[105,110,103],[101,100],[101,115],[108,121],[115]] underlying23 G7 I fun R bc o an q ao=>(lv (q9 underlying23 u q) (lv (r_m u) (nq ?_)))))))))
   obtain⟨s,ap,aq⟩:=ob m
   refine l4 (IW w K [] o [(0,sv s.1),(3,.bool s.2)] [] (s.1.length≤maxLen)) ?_ ?_
   ·refine j7 ?_
    obtain⟨bd,ar,S⟩:=ob ap
    have au:=ao.sb (sd sz)
    refine qf (fun (x:Nat) (b:r4×Bool)=>IW w K [] o [(0,sv b.1),(3,.bool b.2),(10,V3 R 5 5),(11,V6 (([([105,110,103]:r4),([101,100]:r4),([101,115]:r4),([108,121]:r4),([115]:r4)]:List r4).length:Int)),(12,V6 ((x:Nat):Int))] [] (b.1.length≤maxLen)) ar ⟨o,u,au,kr,O⟩ ?_ ?_
    ·rintro x b _ aw be hi60 ax ay ⟨y,rfl,c,d,f⟩
     refine sr (lv (u7 u u) (ns (C9 u (b8 (by omega)) (j3 (l5 (o4 (j7 (sr ?_))))))))
     obtain⟨T,az,aA⟩:=ob ax
     refine li underlying23 G7 (q.mono d) az fun aB aC bf aD aE=>?_
     obtain⟨rfl,aF⟩:=aD
     have aG:F1 _ aB aC [sv T]:=aE
     refine lv (y9 G7 u c (aG 0 _ u)) (av u (ns ?_))
     obtain⟨aH,aI,aJ⟩:=ob aA
     refine l4 (IV w K [] y [(0,sv b.1),(3,.bool b.2),(5,sv T),(10,V3 R 5 5),(11,V6 (([([105,110,103]:r4),([101,100]:r4),([101,115]:r4),([108,121]:r4),([115]:r4)]:List r4).length:Int)),(12,V6 ((x:Nat):Int)),(26,.bool aH)] []) ?_ ?_
     ·refine j5 (mv u (mv u ?_))
      obtain⟨bg,aK,aL⟩:=ob aI
      refine lk c5R (a8C F c.enter0 f aF aK) ?_
      rintro bh bi ⟨U,rfl,A⟩
      have V:=(c.c0 A).t0
      refine mv u (bt aL (fun a B=>?_) (fun a B=>?_))
      ·refine lg a (i5 u) (lg a (J9 underlying9 u) (lg a (i5 u) (lg a (J9 underlying9 u) (lg a (I6 u u) (lg a (a3B u u) (lv (n9 u a u) (i8 ?_)))))))
       cases oi B
       exact qd ⟨U,u,V,A.le⟩
      iterate 6 refine lu a ?_
      refine lv (L8 u a u) (i8 ?_)
      cases oi B
      exact qd ⟨U,u,V,A.le⟩
     rintro _ bj ⟨W,rfl,X,Y⟩
     refine l5 (D5 aJ u (fun aM C=>?_) (fun aM C=>?_))
     ·refine sr (mv u (mv u (lv (J9 underlying9 u) (mv u (lv (J9 underlying9 u) (lv (I6 u u) ?_))))))
      obtain⟨bk,aa,aN⟩:=ob C
      refine lv (b7u underlying9 u u aa) (av u (nr (lv (r_t u) (nq (y4 (b7k u (g8 (g8 ?_))))))))
      cases oi aN
      cases ay _ u
      refine l6 ?_
      cases oi S
      exact qd ⟨W,u,X,(d.trans Y),(a1V f aa)⟩
     refine j3 (x8 (qg (lv (B6 u u (C6 hi60 (b7.max q))) (mv u (i8 ?_)))))
     cases oi C
     exact qd ⟨_,u,W,u,X,(d.trans Y),f⟩
    rintro b _ aw aO ⟨y,rfl,c,d,f⟩
    subst aO
    refine sr (lv (u7 u u) (ns (C8 u (c6 (by omega)) (y4 (g8 (g8 (l6 ?_)))))))
    cases oi S
    exact qd ⟨y,u,c,d,f⟩
   rintro _ bl ⟨aP,rfl,aQ,aR,aS⟩
   refine x8 ?_
   cases oi aq
   exact qd ⟨_,u,aP,u,aQ,((J.trans an).trans aR),aS⟩
  refine y4 (g8 (g8 ?_))
  cases oi m
  cases ak _ u
  refine l6 ?_
  cases oi ai
  exact qd ⟨al,u,I,J,O⟩
 rintro _ bm ⟨aT,rfl,aU,bn,aV⟩
 refine qr (mv u (av u (nq (j9 ?_))))
 cases oi ag
 exact ey results109 ⟨aT,u,aU,aV⟩

theorem a52 {q0:u6}{r:Bool}(hS:SH w K [] w K [])(ae:b7 D9 K A a b q0.Stops)(U:b7 L0 K B c d q0.Syns)(hm:a03 F q0=some r):
  Calls prog 59 #[.agg #[V3 A a b,V3 B c d]] w (R_b w K r):=by
 rw [a03] at hm
 refine ci func59 u ntmps59 (sr (bx u hS fun f cu aO=>?_))
 have x:SH _ _ _ _ _ [s7 f [V3 A a b,V3 B c d] 26]:=aO
 refine lv (O6 u) (ns (o4 ?_))
 obtain⟨aP,aQ,aR⟩:=ob hm
 refine l4 (IV w K [] K [(1,pt f),(22,.bool aP)] [s7 f [V3 A a b,V3 B c d] 26]) ?_ ?_
 ·refine j5 (fl a34 u W1 m0 x u (lv (q9 underlying23 u ae) (lv (E7 u u) (mv u (bt aQ (fun i af=>?_) (fun i af=>?_))))))
  ·refine lu i (lu i (lu i (lu i (lv (J6 u i u) (mv u (lu u (lu u (lu u (lu u ?_)))))))))
   refine lv (J6 u u u) (i8 ?_)
   cases oi af
   exact qd ⟨K,u,x,kr⟩
  refine lg i (c7 a34 u) (lg i (w8 W1 u m0 x u) ?_)
  obtain⟨cv,aS,aT⟩:=ob af
  refine A3 (wg u u i) u (A2 (vs:=[V3 A a b]) c5u u) (a9l F x.enter0 ae aS) ?_
  rintro cw cx ⟨aE,rfl,V⟩
  refine⟨_,u,?_⟩
  have ag:=(x.c0 V).t1
  refine lg i (A4 u) (lv (l9 u i u) (mv u (bt aT (fun k ah=>?_) (fun k ah=>?_))))
  ·refine lu k (lu k (lu k (lu k (lv (J6 u k u) (i8 ?_)))))
   cases oi ah
   exact qd ⟨aE,u,ag,V.le⟩
  refine lg k (c7 a3y u) (lg k (w8 a9v u m0 ag u) (lg k (q9 underlying24 u (U.mono V.le)) (lg k (E7 u u) (lv (l9 u k u) (i8 ?_)))))
  cases oi ah
  exact qd ⟨aE,u,ag,V.le⟩
 rintro _ cy ⟨W,rfl,ai,X⟩
 refine l5 (D5 aR u (fun aU aj=>?_) (fun aU aj=>?_))
 ·refine sr (lv (O6 u) (nq (rr ?_)))
  cases oi aj
  exact ey results59 ⟨W,u,ai.s⟩
 refine j3 (qs (sr (fl a3y u a9v m0 ai u (lv (q9 underlying24 u (U.mono X)) (lv (r_m u) (nq ?_))))))
 obtain⟨aV,aW,y⟩:=ob aj
 refine l4 (IE aV w K [] W [] []) ?_ ?_
 ·refine j7 ?_
  obtain⟨cz,aX,ak⟩:=ob aW
  refine qf (fun (s:Nat) (aF:Unit)=>IV w K [] W [(1,pt f),(24,V3 B c d),(25,V6 (q0.Syns.length:Int)),(26,V6 ((s:Nat):Int))] [s7 f [V3 A a b,V3 B c d] 26]) aX ⟨W,u,ai,kr⟩ ?_ ?_
  ·rintro s aF _ aY cA hi53 aZ aG ⟨am,rfl,Y,C⟩
   refine sr (lv (u7 u u) (ns (C9 u (b8 (by omega)) (j3 (l5 (o4 (j7 (sr ?_))))))))
   obtain⟨D,ba,bb⟩:=ob aZ
   refine li underlying24 a4h (U.mono (X.trans C)) ba fun bc bd cB be bf=>?_
   obtain⟨G,H,I,rfl,J,an⟩:=be
   have bg:F1 _ bc bd [V3 G H I,sv D.To]:=bf
   refine lv (F3 a4h u Y bg u) (al a4h Y fun ao cC bh=>?_)
   have bi:SH _ _ _ _ _ [s7 ao [V3 none 0 0,sv []] 144,_]:=bh
   refine lw [V3 G H I,sv D.To] a4h bi fun cD aH=>(ns (o4 ?_))
   obtain⟨bj,bk,bl⟩:=ob bb
   refine l4 (IV w K [] am [(1,pt f),(4,pt ao),(24,V3 B c d),(25,V6 (q0.Syns.length:Int)),(26,V6 ((s:Nat):Int)),(48,.bool bj)] [s7 f [V3 A a b,V3 B c d] 26,s7 ao [V3 G H I,sv D.To] 144]) ?_ ?_
   ·refine D4 mixed (by kernel_rfl) aH (kv (c7 a0R u) (kh (z6 W1 u m0 u) (kv (q9 underlying23 u J) ?_)))
    obtain⟨cE,bm,bn⟩:=ob bk
    refine kc a5x (fun _ _ bo cF=>(E2 F) bo.enter0 J.rn (by decide :i7 1) (by decide :i7 3) bm) (kv (A4 u) (km u (bt bn (fun l ap=>?_) (fun l ap=>?_))))
    ·refine kn l (kn l (kn l (kn l (kv (J6 u l u) (km u ?_)))))
     iterate 6 refine qv u u u u ?_
     refine kv (J6 u u u) (B4 ?_)
     rintro cG ⟨bp,bq,br⟩
     cases oi ap
     exact qd ⟨bp,u,bq.f1,br⟩
    refine kg l (c7 a6q u) (kgh l (z6 G7 u m0 u) ?_)
    obtain⟨cH,bs,bu⟩:=ob ap
    refine kcg l b0l (fun _ _ bv cI=>(J5 F) bv.enter0 an bs) (kg l (A4 u) (kv (l9 u l u) (km u (bt bu (fun q aq=>?_) (fun q aq=>?_)))))
    ·iterate 6 refine kn q ?_
     refine kv (J6 u q u) (B4 ?_)
     rintro cJ ⟨bz,bA,bB⟩
     cases oi aq
     exact qd ⟨bz,u,bA.f1,bB⟩
    refine kg q (c7 a6q u) (kgh q (z6 G7 u m0 u) ?_)
    obtain⟨cK,aI,bC⟩:=ob aq
    refine kdg q c1v (fun _ _ bD cL=>(a4x F) bD.enter0 an aI) ?_
    obtain⟨_,_,_,⟨_,_,_,cM⟩,_⟩:=(a4x F) aH.enter0 an aI []
    refine kg q (c7 a6q u) (kgh q (z6 G7 u m0 u) (kg q (a2C u u) (kv (l9 u q u) (B4 ?_))))
    rintro cN ⟨bE,bF,bG⟩
    cases oi bC
    exact qd ⟨bE,u,bF.f1,bG⟩
   rintro _ cO ⟨aa,rfl,ar,O⟩
   refine l5 (D5 bl u (fun bH au=>?_) (fun bH au=>?_))
   ·refine sr (lv (O6 u) (nq (rr (i9 (c9 (c9 ?_))))))
    cases oi au
    cases aG _ u
    refine i9 (c9 ?_)
    cases oi ak
    refine c9 ?_
    cases oi y
    exact ey results59 ⟨aa,u,ar.s⟩
   refine j3 (qr (fl a0R u W1 m1 ar u (lv (q9 underlying23 u (J.mono O)) (lv (r_m u) (nq ?_)))))
   obtain⟨bI,bJ,ab⟩:=ob au
   refine l4 (IE bI w K [] aa [(1,pt f),(24,V3 B c d),(25,V6 (q0.Syns.length:Int)),(26,V6 ((s:Nat):Int))] [s7 f [V3 A a b,V3 B c d] 26]) ?_ ?_
   ·refine j7 ?_
    obtain⟨cP,bK,aJ⟩:=ob bJ
    have bL:=ar.sb (sk (sd sz))
    refine qf (fun (aw:Nat) (aK:Unit)=>IV w K [] aa [(1,pt f),(24,V3 B c d),(25,V6 (q0.Syns.length:Int)),(26,V6 ((s:Nat):Int)),(50,V3 G H I),(51,V6 (D.From.length:Int)),(52,V6 ((aw:Nat):Int))] [s7 f [V3 A a b,V3 B c d] 26]) bK ⟨aa,u,bL,kr⟩ ?_ ?_
    ·rintro aw aK _ bM cQ hi147 bN bO ⟨ax,rfl,R,S⟩
     refine sr (lv (u7 u u) (ns (C9 u (b8 (by omega)) (j3 (l5 (o4 (j7 (sr ?_))))))))
     obtain⟨ay,bP,bQ⟩:=ob bN
     refine li underlying23 G7 (J.mono (O.trans S)) bP fun bR bS cR bT bU=>?_
     obtain⟨rfl,az⟩:=bT
     have bV:F1 _ bR bS [sv ay]:=bU
     refine lv (y9 G7 u R (bV 0 _ u)) (av u (ns ?_))
     obtain⟨bW,bX,bY⟩:=ob bQ
     refine l4 (IV w K [] ax [(1,pt f),(24,V3 B c d),(25,V6 (q0.Syns.length:Int)),(26,V6 ((s:Nat):Int)),(50,V3 G H I),(51,V6 (D.From.length:Int)),(52,V6 ((aw:Nat):Int)),(70,.bool bW)] [s7 f [V3 A a b,V3 B c d] 26]) ?_ ?_
     ·refine j5 (mv u ?_)
      obtain⟨cS,bZ,ca⟩:=ob bX
      refine lk b0l (J5 F R.enter0 az bZ) ?_
      rintro cT cU ⟨cb,rfl,T⟩
      have aA:=(R.c0 T).t1
      refine lv (A4 u) (mv u (bt ca (fun m aB=>?_) (fun m aB=>?_)))
      ·refine lu m (lu m (lu m (lu m (lv (J6 u m u) (mv u (lu u (lu u (lu u (lu u ?_)))))))))
       refine lv (J6 u u u) (i8 ?_)
       cases oi aB
       exact qd ⟨cb,u,aA,T.le⟩
      refine lg m (i5 u) ?_
      obtain⟨cV,cc,cd⟩:=ob aB
      refine A3 (wg u u m) u (A2 (vs:=[sv ay]) c1v u) (a4x F aA.enter0 az cc) ?_
      rintro cW cX ⟨ce,rfl,ac,cY⟩
      refine⟨_,u,?_⟩
      have ad:=(aA.c0 ac).t1
      refine lg m (i5 u) (lg m (a2C u u) (lv (l9 u m u) (mv u (bt cd (fun o aC=>?_) (fun o aC=>?_)))))
      ·refine lu o (lu o (lu o (lu o (lv (J6 u o u) (i8 ?_)))))
       cases oi aC
       exact qd ⟨ce,u,ad,(T.le.trans ac.le)⟩
      refine lg o (c7 a34 u) (lg o (w8 W1 u m0 ad u) (lg o (i5 u) ?_))
      obtain⟨cZ,cf,cg⟩:=ob aC
      refine A3 (wg u u o) u (A2 (vs:=[V3 A a b,sv ay]) c4A u) (a0F F ad.enter0 (b7.mono (((((X.trans C).trans O).trans S).trans T.le).trans ac.le) ae) az cf) ?_
      rintro da db ⟨ch,rfl,aL⟩
      refine⟨_,u,?_⟩
      have cj:=(ad.c0 aL).t1
      refine lv (l9 u o u) (i8 ?_)
      cases oi cg
      exact qd ⟨ch,u,cj,((T.le.trans ac.le).trans aL.le)⟩
     rintro _ dc ⟨aM,rfl,aN,ck⟩
     refine l5 (D5 bY u (fun cl aD=>?_) (fun cl aD=>?_))
     ·refine sr (lv (O6 u) (nq (j9 (i9 (c9 (c9 ?_))))))
      cases oi aD
      cases bO _ u
      refine i9 (c9 ?_)
      cases oi aJ
      refine i9 (c9 (c9 ?_))
      cases oi ab
      cases aG _ u
      refine i9 (c9 ?_)
      cases oi ak
      refine c9 ?_
      cases oi y
      exact ey results59 ⟨aM,u,aN.s⟩
     refine j3 (x8 (qg (lv (B6 u u (C6 hi147 (b7.max (J.mono O)))) (mv u (i8 ?_)))))
     cases oi aD
     exact qd ⟨_,u,aM,u,aN,(S.trans ck)⟩
    rintro aK _ bM cm ⟨ax,rfl,R,S⟩
    subst cm
    refine sr (lv (u7 u u) (ns (C8 u (c6 (by omega)) (y4 (g8 (g8 (l6 ?_)))))))
    cases oi aJ
    exact qd ⟨_,ax,u,u,R,S⟩
   rintro _ dd ⟨de,cn,rfl,rfl,cp,cq⟩
   have ab:=E9 ab
   refine x8 (qg (lv (B6 u u (C6 hi53 (b7.max (U.mono X)))) (mv u (i8 ?_))))
   cases oi ab
   exact qd ⟨_,u,cn,u,cp,((C.trans O).trans cq)⟩
  rintro aF _ aY cr ⟨am,rfl,Y,C⟩
  subst cr
  refine sr (lv (u7 u u) (ns (C8 u (c6 (by omega)) (y4 (g8 (g8 (l6 ?_)))))))
  cases oi ak
  exact L6 ⟨_,am,u,u,Y.s,C⟩ trivial
 rintro _ df ⟨dg,cs,rfl,rfl,ct,dh⟩
 have y:=E9 y
 refine qr (lv (r_t u) (nq (j9 ?_)))
 cases oi y
 exact ey results59 ⟨cs,u,ct⟩

theorem a54 {q0:r4}{r:Bool}(hS:SH w K [] w K [])(y:q0.length≤maxLen)(hm:a04 F q0=some r):
  Calls prog 123 #[sv q0] w (R_b w K r):=by
 rw [a04] at hm
 refine ci func123 u ntmps123 (sr (lv (O6 u) (O7 (mv u (lv (J9 underlying9 u) (lv (r_m u) (nq ?_)))))))
 obtain⟨A,B,d⟩:=ob hm
 refine l4 (IE A w K [] K [(0,sv q0)] []) ?_ ?_
 ·refine j7 ?_
  obtain⟨ab,C,o⟩:=ob B
  refine qf (fun (i:Nat) (q:Unit)=>IV w K [] K [(0,sv q0),(5,V6 (q0.length:Int)),(6,V6 ((i:Nat):Int))] []) C ⟨K,u,hS,kr⟩ ?_ ?_
  ·rintro i q _ D ac hi21 G H ⟨c,rfl,f,k⟩
   refine sr (lv (u7 u u) (ns (C9 u (b8 (by omega)) (j3 (l5 (o4 (j7 (sr (mv u (av u (ns ?_)))))))))))
   obtain⟨I,J,O⟩:=ob G
   refine l4 (IV w K [] c [(0,sv q0),(5,V6 (q0.length:Int)),(6,V6 ((i:Nat):Int)),(18,.bool I)] []) ?_ ?_
   ·refine j5 (mv u (mv u ?_))
    obtain⟨ad,R,S⟩:=ob J
    refine lv (N9 underlying9 u u R) (lv (c4g (b:=(32:UInt8)) u u) (mv u (bt S (fun a l=>?_) (fun a l=>?_))))
    ·refine lu a (lu a (lu a (lu a (lv (J6 u a u) (i8 ?_)))))
     cases oi l
     exact qd ⟨c,u,f,kr⟩
    refine lg a (i5 u) (lg a (i5 u) ?_)
    obtain⟨ae,T,U⟩:=ob l
    refine lg a (N9 underlying9 u u T) (lg a (c4e (b:=(126:UInt8)) u u) (lv (l9 u a u) (i8 ?_)))
    cases oi U
    exact qd ⟨c,u,f,kr⟩
   rintro _ af ⟨s,rfl,x,V⟩
   refine l5 (D5 O u (fun W m=>?_) (fun W m=>?_))
   ·refine sr (lv (O6 u) (nq (j9 (i9 (c9 (c9 ?_))))))
    cases oi m
    cases H _ u
    refine i9 (c9 ?_)
    cases oi o
    refine c9 ?_
    cases oi d
    exact ey results123 ⟨s,u,x⟩
   refine j3 (x8 (qg (lv (B6 u u (C6 hi21 y)) (mv u (i8 ?_)))))
   cases oi m
   exact qd ⟨_,u,s,u,x,(k.trans V)⟩
  rintro q _ D X ⟨c,rfl,f,k⟩
  subst X
  refine sr (lv (u7 u u) (ns (C8 u (c6 (by omega)) (y4 (g8 (g8 (l6 ?_)))))))
  cases oi o
  exact qd ⟨_,c,u,u,f,k⟩
 rintro _ w9 ⟨s5,Y,rfl,rfl,aa,ai⟩
 have d:=E9 d
 refine qr (mv u (lv (J9 underlying9 u) (lv (V2 u u) (av u (nq (j9 ?_))))))
 cases oi d
 exact ey results123 ⟨Y,u,aa⟩

theorem a6C {q0:A1}{r:Bool}(hS:SH w K [] w K [])(aH:i7 q0.Id)(D:b7 K5 K A a b q0.Fields)(G:b7 N0 K B c d q0.Nums)(hm:a1L F q0=some r):
  Calls prog 102 #[.agg #[V6 q0.Id,V3 A a b,V3 B c d]] w (R_b w K r):=by
 rw [a1L] at hm
 refine ci func102 u ntmps102 (sr (bx u hS fun k cT aI=>?_))
 have Y:SH _ _ _ _ _ [s7 k [V6 q0.Id,V3 A a b,V3 B c d] 44]:=aI
 refine lv (O6 u) (ns (o4 ?_))
 obtain⟨aJ,aK,aL⟩:=ob hm
 refine l4 (IV w K [] K [(1,pt k),(22,.bool aJ)] [s7 k [V6 q0.Id,V3 A a b,V3 B c d] 44]) ?_ ?_
 ·refine j5 (fl P6 u E6 m0 Y u ?_)
  obtain⟨cU,aM,aN⟩:=ob aK
  refine lk a5x (E2 F Y.enter0 aH (by decide :i7 1) (by decide :i7 9999) aM) ?_
  rintro cV cW ⟨aa,rfl,C⟩
  have H:=(Y.c0 C).t1
  refine lv (A4 u) (mv u (bt aN (fun o ab=>?_) (fun o ab=>?_)))
  ·refine lu o (lu o (lu o (lu o (lv (J6 u o u) (mv u (lu u (lu u (lu u (lu u ?_)))))))))
   refine lv (J6 u u u) (i8 ?_)
   cases oi ab
   exact qd ⟨aa,u,H,C.le⟩
  refine lg o (c7 a1x u) (lg o (w8 a7g u m0 H u) (lg o (q9 underlying41 u (D.mono C.le)) (lg o (E7 u u) (lv (l9 u o u) (mv u (bt ab (fun q ac=>?_) (fun q ac=>?_)))))))
  ·refine lu q (lu q (lu q (lu q (lv (J6 u q u) (i8 ?_)))))
   cases oi ac
   exact qd ⟨aa,u,H,C.le⟩
  refine lg q (c7 a1S u) (lg q (w8 a7y u m0 H u) (lg q (q9 underlying42 u (G.mono C.le)) (lg q (E7 u u) (lv (l9 u q u) (i8 ?_)))))
  cases oi ac
  exact qd ⟨aa,u,H,C.le⟩
 rintro _ cX ⟨O,rfl,ad,y⟩
 refine l5 (D5 aL u (fun aO ae=>?_) (fun aO ae=>?_))
 ·refine sr (lv (O6 u) (nq (rr ?_)))
  cases oi ae
  exact ey results102 ⟨O,u,ad.s⟩
 refine j3 (qs (sr (fl a1x u a7g m0 ad u (lv (q9 underlying41 u (D.mono y)) (lv (r_m u) (nq ?_))))))
 obtain⟨aP,aQ,R⟩:=ob ae
 refine l4 (IE aP w K [] O [(1,pt k)] [s7 k [V6 q0.Id,V3 A a b,V3 B c d] 44]) ?_ ?_
 ·refine j7 ?_
  obtain⟨cY,aR,aw⟩:=ob aQ
  refine qf (fun (af:Nat) (ax:Unit)=>IV w K [] O [(1,pt k),(24,V3 A a b),(25,V6 (q0.Fields.length:Int)),(26,V6 ((af:Nat):Int))] [s7 k [V6 q0.Id,V3 A a b,V3 B c d] 44]) aR ⟨O,u,ad,kr⟩ ?_ ?_
  ·rintro af ax _ aS cZ hi54 aT aU ⟨ag,rfl,S,I⟩
   refine sr (lv (u7 u u) (ns (C9 u (b8 (by omega)) (j3 (l5 (o4 (j7 (sr (mv u ?_)))))))))
   obtain⟨T,aV,aW⟩:=ob aT
   refine li underlying41 U6 (D.mono (y.trans I)) aV fun aX aY da aZ ba=>?_
   obtain⟨rfl,bb,bc⟩:=aZ
   have bd:F1 _ aX aY [sv T.Name,sv T.Text]:=ba
   refine lv (F3 U6 u S bd u) (al U6 S fun be db bf=>?_)
   have bg:SH _ _ _ _ _ [s7 be [sv [],sv []] 148,_]:=bf
   refine av u (lw [sv T.Name,sv T.Text] U6 bg fun dc bh=>(ns ?_))
   obtain⟨bi,bj,bk⟩:=ob aW
   refine l4 (IV w K [] ag [(1,pt k),(24,V3 A a b),(25,V6 (q0.Fields.length:Int)),(26,V6 ((af:Nat):Int)),(56,.bool bi)] [s7 k [V6 q0.Id,V3 A a b,V3 B c d] 44]) ?_ ?_
   ·refine D4 mixed (by kernel_rfl) bh (kv (c7 a5a u) (kh (z6 G7 u m0 u) ?_))
    obtain⟨dd,bl,bm⟩:=ob bj
    refine kc b0l (fun _ _ bn de=>(J5 F) bn.enter0 bb bl) (kv (A4 u) (km u (bt bm (fun s ah=>?_) (fun s ah=>?_))))
    ·refine kn s (kn s (kn s (kn s (kv (J6 u s u) (km u (qv u u u u (qv u u u u (qv u u u u ?_))))))))
     iterate 10 refine ku ?_
     refine qv u u u u (kv (J6 u u u) (B4 ?_))
     rintro df ⟨bo,bp,bq⟩
     cases oi ah
     exact qd ⟨bo,u,bp.s,bq⟩
    refine kg s (c7 b0n u) (kgh s (z6 G7 u m0 u) ?_)
    obtain⟨dg,br,bs⟩:=ob ah
    refine kcg s c1w (fun _ _ bu dh=>(a54 F) bu.enter0 bc br) (kg s (A4 u) (kv (l9 u s u) (km u (bt bs (fun l ai=>?_) (fun l ai=>?_)))))
    ·refine kn l (kn l (kn l ?_))
     iterate 10 refine ku ?_
     refine kn l (kv (J6 u l u) (B4 ?_))
     rintro di ⟨bv,bz,bA⟩
     cases oi ai
     exact qd ⟨bv,u,bz.s,bA⟩
    refine kg l (i5 u) (kg l (E7 u u) (kg l (i5 u) (bt ai (fun f aj=>?_) (fun f aj=>?_))))
    ·refine kg f (c7 a1x u) (kgh f (z6 a7g u m1 u) (kg f (i5 u) (kg f (I6 u u) ?_)))
     obtain⟨ay,bB,bC⟩:=ob aj
     refine C7 (t:=K5) (wg u u f) u underlying41 U6 u u (D.mono (y.trans I)) bB fun bD bE dj bF bG=>?_
     obtain⟨rfl,dk,dl⟩:=bF
     have bH:F1 _ bD bE [sv ay.Name,sv ay.Text]:=bG
     refine kg f (c7 a5a u) (kgh f (C1 G7 u (bH 0 _ u)) (kg f (c7 a5a u) (kgh f (z6 G7 u m0 u) (kg f (b52 u u) (kg l (n9 u f u) (kv (l9 u l u) (B4 ?_)))))))
     rintro dm ⟨bI,bJ,bK⟩
     cases oi bC
     exact qd ⟨bI,u,bJ.s,bK⟩
    iterate 10 refine kn f ?_
    refine kg l (L8 u f u) (kv (l9 u l u) (B4 ?_))
    rintro dn ⟨bL,bM,bN⟩
    cases oi aj
    exact qd ⟨bL,u,bM.s,bN⟩
   rintro _ dp ⟨az,rfl,aA,bO⟩
   refine l5 (D5 bk u (fun bP ak=>?_) (fun bP ak=>?_))
   ·refine sr (lv (O6 u) (nq (j9 (i9 (c9 (c9 ?_))))))
    cases oi ak
    cases aU _ u
    refine i9 (c9 ?_)
    cases oi aw
    refine c9 ?_
    cases oi R
    exact ey results102 ⟨az,u,aA.s⟩
   refine j3 (x8 (qg (lv (B6 u u (C6 hi54 (b7.max (D.mono y)))) (mv u (i8 ?_)))))
   cases oi ak
   exact qd ⟨_,u,az,u,aA,(I.trans bO)⟩
  rintro ax _ aS bQ ⟨ag,rfl,S,I⟩
  subst bQ
  refine sr (lv (u7 u u) (ns (C8 u (c6 (by omega)) (y4 (g8 (g8 (l6 ?_)))))))
  cases oi aw
  exact qd ⟨_,ag,u,u,S,I⟩
 rintro _ dq ⟨dr,am,rfl,rfl,aB,U⟩
 have R:=E9 R
 refine qs (sr (fl a1S u a7y m0 aB u (lv (q9 underlying42 u (G.mono (y.trans U))) (lv (r_m u) (nq ?_)))))
 obtain⟨bR,bS,V⟩:=ob R
 refine l4 (IE bR w K [] am [] []) ?_ ?_
 ·refine j7 ?_
  obtain⟨ds,bT,aC⟩:=ob bS
  refine qf (fun (an:Nat) (aD:Unit)=>IV w K [] am [(1,pt k),(59,V3 B c d),(60,V6 (q0.Nums.length:Int)),(61,V6 ((an:Nat):Int))] [s7 k [V6 q0.Id,V3 A a b,V3 B c d] 44]) bT ⟨am,u,aB,kr⟩ ?_ ?_
  ·rintro an aD _ bU dt hi156 bV bW ⟨ao,rfl,W,J⟩
   refine sr (lv (u7 u u) (ns (C9 u (b8 (by omega)) (j3 (l5 (o4 (j7 (sr (mv u ?_)))))))))
   obtain⟨X,bX,bY⟩:=ob bV
   refine li underlying42 Y9 (G.mono ((y.trans U).trans J)) bX fun bZ ca du cb cc=>?_
   obtain⟨rfl,cd,ce⟩:=cb
   have cf:F1 _ bZ ca [sv X.Name,V6 X.Num]:=cc
   refine lv (F3 Y9 u W cf u) (al Y9 W fun cg dv ch=>?_)
   have cj:SH _ _ _ _ _ [s7 cg [sv [],V6 0] 137,_]:=ch
   refine av u (lw [sv X.Name,V6 X.Num] Y9 cj fun dw ck=>(ns ?_))
   obtain⟨cl,cm,cn⟩:=ob bY
   refine l4 (IV w K [] ao [(1,pt k),(59,V3 B c d),(60,V6 (q0.Nums.length:Int)),(61,V6 ((an:Nat):Int)),(91,.bool cl)] [s7 k [V6 q0.Id,V3 A a b,V3 B c d] 44]) ?_ ?_
   ·refine D4 mixed (by kernel_rfl) ck (kv (c7 a6o u) (kh (z6 G7 u m0 u) ?_))
    obtain⟨dx,cp,cq⟩:=ob cm
    refine kc b0l (fun _ _ cr dy=>(J5 F) cr.enter0 cd cp) (kv (A4 u) (km u (bt cq (fun x ap=>?_) (fun x ap=>?_))))
    ·refine kn x (kn x (kn x (kn x (kv (J6 u x u) (km u (qv u u u u (qv u u u u (qv u u u u ?_))))))))
     iterate 10 refine ku ?_
     refine qv u u u u (kv (J6 u u u) (B4 ?_))
     rintro dz ⟨cs,ct,cu⟩
     cases oi ap
     exact qd ⟨cs,u,ct.s,cu⟩
    refine kg x (c7 b2Z u) (kgh x (z6 E6 u m0 u) ?_)
    obtain⟨dA,cv,cw⟩:=ob ap
    refine kcg x a5x (fun _ _ cx dB=>(E2 F) cx.enter0 ce I5 (by decide :i7 999999999) cv) (kg x (A4 u) (kv (l9 u x u) (km u (bt cw (fun m aq=>?_) (fun m aq=>?_)))))
    ·refine kn m (kn m (kn m ?_))
     iterate 10 refine ku ?_
     refine kn m (kv (J6 u m u) (B4 ?_))
     rintro dC ⟨cy,cz,cA⟩
     cases oi aq
     exact qd ⟨cy,u,cz.s,cA⟩
    refine kg m (i5 u) (kg m (E7 u u) (kg m (i5 u) (bt aq (fun i ar=>?_) (fun i ar=>?_))))
    ·refine kg i (c7 a1S u) (kgh i (z6 a7y u m1 u) (kg i (i5 u) (kg i (I6 u u) ?_)))
     obtain⟨aE,cB,cC⟩:=ob ar
     refine C7 (t:=N0) (wg u u i) u underlying42 Y9 u u (G.mono ((y.trans U).trans J)) cB fun cD cE dD cF cG=>?_
     obtain⟨rfl,dE,dF⟩:=cF
     have cH:F1 _ cD cE [sv aE.Name,V6 aE.Num]:=cG
     refine kg i (c7 a6o u) (kgh i (C1 G7 u (cH 0 _ u)) (kg i (c7 a6o u) (kgh i (z6 G7 u m0 u) (kg i (b52 u u) (kg m (n9 u i u) (kv (l9 u m u) (B4 ?_)))))))
     rintro dG ⟨cI,cJ,cK⟩
     cases oi cC
     exact qd ⟨cI,u,cJ.s,cK⟩
    iterate 10 refine kn i ?_
    refine kg m (L8 u i u) (kv (l9 u m u) (B4 ?_))
    rintro dH ⟨cL,cM,cN⟩
    cases oi ar
    exact qd ⟨cL,u,cM.s,cN⟩
   rintro _ dI ⟨aF,rfl,aG,cO⟩
   refine l5 (D5 cn u (fun cP au=>?_) (fun cP au=>?_))
   ·refine sr (lv (O6 u) (nq (j9 (i9 (c9 (c9 ?_))))))
    cases oi au
    cases bW _ u
    refine i9 (c9 ?_)
    cases oi aC
    refine c9 ?_
    cases oi V
    exact ey results102 ⟨aF,u,aG.s⟩
   refine j3 (x8 (qg (lv (B6 u u (C6 hi156 (b7.max (G.mono (y.trans U))))) (mv u (i8 ?_)))))
   cases oi au
   exact qd ⟨_,u,aF,u,aG,(J.trans cO)⟩
  rintro aD _ bU cQ ⟨ao,rfl,W,J⟩
  subst cQ
  refine sr (lv (u7 u u) (ns (C8 u (c6 (by omega)) (y4 (g8 (g8 (l6 ?_)))))))
  cases oi aC
  exact L6 ⟨_,ao,u,u,W.s,J⟩ trivial
 rintro _ dJ ⟨dK,cR,rfl,rfl,cS,dL⟩
 have V:=E9 V
 refine qr (lv (r_t u) (nq (j9 ?_)))
 cases oi V
 exact ey results102 ⟨cR,u,cS⟩

theorem a8s {q0:List A1}{r:Bool}(hS:SH w K [] w K [])(f:b7 F6 K A a b q0)(hm:a2o F q0=some r):
  Calls prog 60 #[V3 A a b] w (R_b w K r):=by
 rw [a2o] at hm
 refine ci func60 u ntmps60 (sr (lv (O6 u) (O7 (mv u (lv (q9 underlying27 u f) (lv (r_m u) (nq ?_)))))))
 obtain⟨U,V,k⟩:=ob hm
 refine l4 (IE U w K [] K [(0,V3 A a b)] []) ?_ ?_
 ·refine j7 ?_
  obtain⟨bc,W,J⟩:=ob V
  refine qf (fun (m:Nat) (O:Unit)=>IV w K [] K [(0,V3 A a b),(5,V3 A a b),(6,V6 (q0.length:Int)),(7,V6 ((m:Nat):Int))] []) W ⟨K,u,hS,kr⟩ ?_ ?_
  ·rintro m O _ X bd hi23 Y aa ⟨o,rfl,l,i⟩
   refine sr (lv (u7 u u) (ns (C9 u (b8 (by omega)) (j3 (l5 (o4 (j7 (sr (mv u ?_)))))))))
   obtain⟨q,ab,ac⟩:=ob Y
   refine li underlying27 E8 (f.mono i) ab fun ad ae be af ag=>?_
   obtain⟨s,x,y,B,C,D,rfl,ah,ai,aj⟩:=af
   have ak:F1 _ ad ae [V6 q.Id,V3 s x y,V3 B C D]:=ag
   refine lv (F3 E8 u l ak u) (al E8 l fun am bf an=>?_)
   have ao:SH _ _ _ _ _ [s7 am [V6 0,V3 none 0 0,V3 none 0 0] 44]:=an
   refine av u (lw [V6 q.Id,V3 s x y,V3 B C D] E8 ao fun bg ap=>(ns ?_))
   obtain⟨aq,ar,au⟩:=ob ac
   refine l4 (IV w K [] o [(0,V3 A a b),(5,V3 A a b),(6,V6 (q0.length:Int)),(7,V6 ((m:Nat):Int)),(29,.bool aq)] []) ?_ ?_
   ·refine D4 mixed (by kernel_rfl) ap (kh (D8 (ds:=[V6 q.Id,V3 s x y,V3 B C D]) E8 u m0 u u) ?_)
    obtain⟨bh,aw,ax⟩:=ob ar
    refine kc c1u (fun _ _ ay R=>(a6C F) ay.enter0 ah (ai.mono R) (aj.mono R) aw) (kv (A4 u) (km u (bt ax (fun c G=>?_) (fun c G=>?_))))
    ·refine kn c (kn c (kn c ?_))
     iterate 9 refine ku ?_
     refine kn c (kv (J6 u c u) (B4 ?_))
     rintro bi ⟨az,aA,aB⟩
     cases oi G
     exact qd ⟨az,u,aA.s,aB⟩
    refine kg c (i5 u) (kg c (E7 u u) (kg c (i5 u) (bt G (fun d H=>?_) (fun d H=>?_))))
    ·refine kg d (i5 u) (kg d (i5 u) (kg d (I6 u u) ?_))
     obtain⟨aC,aD,aE⟩:=ob H
     refine C7 (t:=F6) (wg u u d) u underlying27 E8 u u (f.mono i) aD fun aF aG bj aH aI=>?_
     obtain⟨aJ,aK,aL,aM,aN,aO,rfl,bk,bl,bm⟩:=aH
     have aP:F1 _ aF aG [V6 aC.Id,V3 aJ aK aL,V3 aM aN aO]:=aI
     refine kg d (c7 P6 u) (kgh d (C1 E6 u (aP 0 _ u)) (kg d (c7 P6 u) (kgh d (z6 E6 u m0 u) (kg d (a3B u u) (kg c (n9 u d u) (kv (l9 u c u) (B4 ?_)))))))
     rintro bn ⟨aQ,aR,aS⟩
     cases oi aE
     exact qd ⟨aQ,u,aR.s,aS⟩
    iterate 9 refine kn d ?_
    refine kg c (L8 u d u) (kv (l9 u c u) (B4 ?_))
    rintro bo ⟨aT,aU,aV⟩
    cases oi H
    exact qd ⟨aT,u,aU.s,aV⟩
   rintro _ bp ⟨S,rfl,T,aW⟩
   refine l5 (D5 au u (fun aX I=>?_) (fun aX I=>?_))
   ·refine sr (lv (O6 u) (nq (j9 (i9 (c9 (c9 ?_))))))
    cases oi I
    cases aa _ u
    refine i9 (c9 ?_)
    cases oi J
    refine c9 ?_
    cases oi k
    exact ey results60 ⟨S,u,T⟩
   refine j3 (x8 (qg (lv (B6 u u (C6 hi23 (b7.max f))) (mv u (i8 ?_)))))
   cases oi I
   exact qd ⟨_,u,S,u,T,(i.trans aW)⟩
  rintro O _ X aY ⟨o,rfl,l,i⟩
  subst aY
  refine sr (lv (u7 u u) (ns (C8 u (c6 (by omega)) (y4 (g8 (g8 (l6 ?_)))))))
  cases oi J
  exact qd ⟨_,o,u,u,l,i⟩
 rintro _ bq ⟨s8,K9,rfl,rfl,ba,bb⟩
 have k:=E9 k
 refine qr (mv u (lv (q9 underlying27 u (f.mono bb)) (lv (V2 u u) (av u (nq (j9 ?_))))))
 cases oi k
 exact ey results60 ⟨K9,u,ba⟩

theorem a6D {q0:UInt8}{r:UInt8}(hS:SH w K [] w K [])(hm:a1M F q0=some r):
  Calls prog 165 #[iv8 q0] w fun e w'=>∃K',e= .returned (iv8 r)∧SH w K [] w' K' []:=by
 rw [a1M] at hm
 refine ci func165 u ntmps165 (sr (lv (u9 (v:=iv8 0) u) (ns (o4 ?_))))
 obtain⟨k,l,m⟩:=ob hm
 refine l4 (IV w K [] K [(0,iv8 q0),(8,.bool k)] []) ?_ ?_
 ·refine j5 (mv u (lv (a8F (b:=(65:UInt8)) u u) (mv u (bt l (fun a c=>?_) (fun a c=>?_)))))
  ·refine lg a (i5 u) (lg a (a8G (b:=(90:UInt8)) u u) (lv (n9 u a u) (i8 ?_)))
   cases oi c
   exact qd ⟨K,u,hS,kr⟩
  refine lu a (lu a (lv (L8 u a u) (i8 ?_)))
  cases oi c
  exact qd ⟨K,u,hS,kr⟩
 rintro _ q ⟨f,rfl,i,s⟩
 refine l5 (D5 m u (fun o d=>?_) (fun o d=>?_))
 ·refine sr (mv u (lv (b9w (b:=(97:UInt8)) u u) (lv (c3s (b:=(65:UInt8)) u u) (av u (nq (rr ?_))))))
  cases oi d
  exact ey results165 ⟨f,u,i⟩
 refine j3 (qr (mv u (av u (nq (j9 ?_)))))
 cases oi d
 exact ey results165 ⟨f,u,i⟩

theorem b2y {q0:r4}{r:(List a0g)}(hS:SH w K [] w K [])(aI:q0.length≤maxLen)(hm:a0j F q0=some r):
  Calls prog 124 #[sv q0] w fun e w'=>∃a_1 n_2 c_3 K',e= .returned (V3 a_1 n_2 c_3)∧SH w K [] w' K' [tail (V3 a_1 n_2 c_3) 160 4]∧b7 a6K K' a_1 n_2 c_3 r:=by
 rw [a0j] at hm
 refine ci func124 u ntmps124 (sr (lv (r_n u) (nr (b0 a6K underlying157 a4I hS fun a2 w3 K4 cp an ao=>(av u (O7 (mv u ?_)))))))
 obtain⟨r8,aJ,aK⟩:=ob hm
 refine lk c1w (a54 F ao.enter0 aI aJ) ?_
 rintro cr ct ⟨J,rfl,W⟩
 have ap:=(ao.c0 W).t1
 refine lv (A4 u) (nq (D5 aK u (fun aL X=>?_) (fun aL X=>?_)))
 ·refine sr (mv u (av u (nq (rr ?_))))
  cases oi X
  exact ey results124 ⟨a2,0,0,J,u,ap,(an.mono W.le)⟩
 refine j3 (qs (sr (lv (N2 u) (nq ?_))))
 obtain⟨aM,aN,aO⟩:=ob X
 refine l4 (fun E' w'=>∃A B C D,E'=[(3,V3 A B C)]∧SH w K [] w' D [tail (V3 A B C) 160 4]∧M0 J D∧b7 a6K D A B C aM) ?_ ?_
 ·refine j7 ?_
  obtain⟨cu,aP,aQ⟩:=ob aN
  refine qw (fun (a:(List a0g)×Int) E' w'=>∃c d f G,E'=[(0,sv q0),(3,V3 c d f),(4,V6 a.2)]∧SH w K [] w' G [tail (V3 c d f) 160 4]∧M0 J G∧b7 a6K G c d f a.1∧i7 a.2) aP ⟨a2,0,0,J,u,ap,kr,(an.mono W.le),I5⟩ ?_
  rintro a _ cv cw aR aS ⟨c,d,f,G,rfl,Y,aa,H,aq⟩
  refine o4 (sr (mv u (mv u (lv (J9 underlying9 u) (lv (u7 u u) (nq (D5 aR u (fun aT ab=>?_) (fun aT ab=>?_))))))))
  ·refine j3 (l5 (j7 (o4 (sr (mv u (mv u ?_))))))
   obtain⟨cx,aU,aV⟩:=ob ab
   refine lv (N9 underlying9 u u aU) ?_
   obtain⟨cy,aW,aX⟩:=ob aV
   refine lk c1B (a6D F Y.enter0 aW) ?_
   rintro cz cA ⟨cB,rfl,o⟩
   have ar:=(Y.c0 o).t1
   obtain⟨cC,aY,aZ⟩:=ob aX
   refine lk b81 (a3p F ar.enter0 aY) ?_
   rintro cD cE ⟨ba,rfl,q⟩
   have au:=(ar.c0 q).t1
   refine lv (A4 u) (nq (D5 aZ u (fun bb ac=>?_) (fun bb ac=>?_)))
   ·refine sr (mv u (lv (y7 u u) (av u (nq (y4 (g8 (l6 ?_)))))))
    cases oi ac
    exact qd ⟨_,u,c,d,f,ba,u,au,((aa.trans o.le).trans q.le),(H.mono (o.le.trans q.le)),(u0 _)⟩
   refine j3 (qr (mv u (lv (q9 underlying157 u (H.mono (o.le.trans q.le))) (mv u (lv (C3 (cs:=#[sv [],V6 (a.1.length:Int),V6 a.2,V6 0]) c4m a4I u (by kernel_rfl)) (al a4I au fun s cF bc=>?_))))))
   have bd:SH _ _ _ _ _ [s7 s [sv [],V6 0,V6 0,V6 0] 160,_]:=bc
   refine ls [sv [],V6 (a.1.length:Int),V6 a.2,V6 0] (.agg #[sv [],V6 (a.1.length:Int),V6 a.2,V6 0]) a4I bd fun cG be=>(nr (b0 tU8 underlying22 tf5 be fun bf cH ad aw bg bh=>(av u (ns ?_))))
   obtain⟨b,bi,bj⟩:=ob ac
   refine l4 (fun E' w'=>∃O R S T,E'=[(0,sv q0),(3,V3 c d f),(4,V6 b.1),(5,pt s),(6,V3 O R S)]∧SH w K [] w' T [s7 s [sv [],V6 (a.1.length:Int),V6 a.2,V6 0] 160,tail (V3 c d f) 160 4,tail (V3 O R S) 5 1]∧M0 ad T∧i7 b.1∧b7 tU8 T O R S b.2) ?_ ?_
   ·refine j7 ?_
    obtain⟨cI,bk,bl⟩:=ob bi
    refine qw (fun (I:Int×(List UInt8)) E' w'=>∃k l m y,E'=[(0,sv q0),(3,V3 c d f),(4,V6 I.1),(5,pt s),(6,V3 k l m)]∧SH w K [] w' y [s7 s [sv [],V6 (a.1.length:Int),V6 a.2,V6 0] 160,tail (V3 c d f) 160 4,tail (V3 k l m) 5 1]∧M0 ad y∧i7 I.1∧b7 tU8 y k l m I.2) bk ⟨bf,0,0,ad,u,bh.f2.f2,kr,aq,bg⟩ ?_
    rintro I _ cJ cK bm bn ⟨k,l,m,y,rfl,ae,af,bo,U⟩
    refine o4 (o4 ?_)
    obtain⟨bp,bq,br⟩:=ob bm
    refine l4 (IV w K [] y [(0,sv q0),(3,V3 c d f),(4,V6 I.1),(5,pt s),(6,V3 k l m),(39,.bool bp)] [s7 s [sv [],V6 (a.1.length:Int),V6 a.2,V6 0] 160,tail (V3 c d f) 160 4,tail (V3 k l m) 5 1]) ?_ ?_
    ·refine j5 (mv u (mv u (lv (J9 underlying9 u) (lv (u7 u u) (mv u (bt bq (fun i ag=>?_) (fun i ag=>?_)))))))
     ·refine lg i (i5 u) (lg i (i5 u) ?_)
      obtain⟨bs,bu,bv⟩:=ob ag
      refine lg i (N9 underlying9 u u bu) ?_
      obtain⟨bx,bz,bA⟩:=ob bv
      refine A3 (wg u u i) u (A2 (vs:=[iv8 bs]) c1B u) (a6D F ae.enter0 bz) ?_
      rintro cL cM ⟨cN,rfl,ax⟩
      refine⟨_,u,?_⟩
      have ay:=(ae.c0 ax).t3
      obtain⟨cO,bB,bC⟩:=ob bA
      refine A3 (wg u u i) u (A2 (vs:=[iv8 bx]) b81 u) (a3p F ay.enter0 bB) ?_
      rintro cP cQ ⟨bD,rfl,az⟩
      refine⟨_,u,?_⟩
      have bE:=(ay.c0 az).t3
      refine lv (n9 u i u) (i8 ?_)
      cases oi bC
      exact qd ⟨bD,u,bE,(ax.le.trans az.le)⟩
     iterate 5 refine lu i ?_
     refine lv (L8 u i u) (i8 ?_)
     cases oi ag
     exact qd ⟨y,u,ae,kr⟩
    rintro _ cR ⟨aA,rfl,V,x⟩
    refine l5 (D5 br u (fun bF ah=>?_) (fun bF ah=>?_))
    ·refine j3 (l5 (j7 (o4 (sr (mv u (lv (q9 underlying22 u (U.mono x)) (lv (u7 u u) (nq (D5 ah u (fun bG ai=>?_) (fun bG ai=>?_))))))))))
     ·refine j5 (mv u (mv u (mv u ?_)))
      obtain⟨cS,bH,bI⟩:=ob ai
      refine lv (N9 underlying9 u u bH) ?_
      obtain⟨aj,bJ,bK⟩:=ob bI
      refine lk c1B (a6D F V.enter0 bJ) ?_
      rintro cT cU ⟨cV,rfl,ak⟩
      have bL:=(V.c0 ak).t3
      refine lb tU8 (iv8 aj) [iv8 aj] aj underlying22 tf5 u bL fun cW cX cY aB bM bN=>?_
      obtain⟨cZ,bO,bP⟩:=ob bK
      refine lp underlying22 tf5 (U.mono ((x.trans ak.le).trans aB)) bM bO bN.f3 fun bQ bR bS da bT bU bV bW=>(av u (nq (j5 (mv u (lv (y7 u u) (av u (nb ?_)))))))
      cases oi bP
      exact qd ⟨_,u,bQ,bR,bS,bT,u,bW.f3.f3.s,((((af.trans x).trans ak.le).trans aB).trans bU),(u0 _),bV⟩
     refine j3 (l5 (j5 (mv u (lv (y7 u u) (av u (nb ?_))))))
     cases oi ai
     exact qd ⟨_,u,k,l,m,aA,u,V,(af.trans x),(u0 _),(U.mono x)⟩
    refine y4 (g8 (g8 ?_))
    cases oi ah
    cases bn _ u
    refine l6 ?_
    cases oi bl
    exact qd ⟨k,l,m,aA,u,V,(af.trans x),bo,(U.mono x)⟩
   rintro _ db ⟨O,R,S,T,rfl,aC,aD,aE,aF⟩
   refine qr (mv u (lv (c2c underlying22 underlying5 underlying9 u aF aC) (mv u (fa b0o u (ls [sv b.2,V6 (a.1.length:Int),V6 a.2,V6 0] (sv b.2) G7 aC fun dc bX=>(fa c22 u (ls [sv b.2,V6 (a.1.length:Int),V6 a.2,V6 b.1] (V6 b.1) E6 bX fun dd aG=>(nq (j5 ?_)))))))))
   refine mv u (lv (j6 (ds:=[sv b.2,V6 (a.1.length:Int),V6 a.2,V6 b.1]) a4I u m0 aG u u) (lb a6K (.agg #[sv b.2,V6 (a.1.length:Int),V6 a.2,V6 b.1]) [sv b.2,V6 (a.1.length:Int),V6 a.2,V6 b.1] (a0g.mk b.2 (a.1.length:Int) a.2 b.1) underlying157 a4I ⟨u,(b7.max aF),(H.mono (o.le.trans q.le)).rn,aq,aE⟩ aG fun de df dg aH bY bZ=>?_))
   obtain⟨dh,ca,cb⟩:=ob bj
   refine lp underlying157 a4I (b7.mono ((((o.le.trans q.le).trans aw).trans aD).trans aH) H) bY ca bZ.f2 fun cc cd ce di cf cg ch cj=>(av u (nb ?_))
   cases oi cb
   exact qd ⟨_,u,cc,cd,ce,cf,u,cj.s,((((((aa.trans o.le).trans q.le).trans aw).trans aD).trans aH).trans cg),ch,aE⟩
  refine y4 (g8 (g8 ?_))
  cases oi ab
  cases aS _ u
  refine l6 ?_
  cases oi aQ
  exact qd ⟨c,d,f,G,u,Y,aa,H⟩
 rintro _ dj ⟨A,B,C,D,rfl,ck,dk,cl⟩
 refine qr (mv u (av u (nq (j9 ?_))))
 cases oi aO
 exact ey results124 ⟨A,B,C,D,u,ck,cl⟩

theorem a6Z {q0:A1}{q1:r4}{r:r4}(hS:SH w K [] w K [])(O:i7 q0.Id)(f:b7 K5 K A a b q0.Fields)(R:b7 N0 K B c d q0.Nums)(ay:q1.length≤maxLen)(hm:X8 F q0 q1=some r):
  Calls prog 126 #[.agg #[V6 q0.Id,V3 A a b,V3 B c d],sv q1] w fun e w'=>∃K',e= .returned (sv r)∧SH w K [] w' K' []∧r.length≤maxLen:=by
 rw [X8] at hm
 refine ci func126 u ntmps126 (sr (bx u hS fun S az T=>?_))
 have y:SH _ _ _ _ _ [s7 S [V6 q0.Id,V3 A a b,V3 B c d] 44]:=T
 refine lv (r_s u) (O7 (lv (j6 (ds:=[V6 q0.Id,V3 A a b,V3 B c d]) E8 u m0 y u u) ?_))
 obtain⟨aA,U,V⟩:=ob hm
 refine lk c1u (a6C F y.enter0 O f R U) ?_
 rintro aB aC ⟨i,rfl,k⟩
 have C:=(y.c0 k).t1
 refine nq (D5 V u (fun W D=>?_) (fun W D=>?_))
 ·refine sr (fl a1x u a7g m0 C u (lv (q9 underlying41 u (f.mono k.le)) (lv (r_m u) (nq ?_))))
  obtain⟨X,Y,l⟩:=ob D
  refine l4 (IE X w K [] i [] []) ?_ ?_
  ·refine j7 ?_
   obtain⟨aD,aa,H⟩:=ob Y
   have ab:=C.sb (sd sz)
   refine qf (fun (I:Nat) (J:Unit)=>IV w K [] i [(1,sv q1),(10,V3 A a b),(11,V6 (q0.Fields.length:Int)),(12,V6 ((I:Nat):Int))] []) aa ⟨i,u,ab,kr⟩ ?_ ?_
   ·rintro I J _ ac aE hi44 ad ae ⟨m,rfl,o,q⟩
    refine sr (lv (u7 u u) (ns (C9 u (b8 (by omega)) (j3 (l5 (o4 (j7 (sr ?_))))))))
    obtain⟨s,af,ag⟩:=ob ad
    refine li underlying41 U6 (f.mono (k.le.trans q)) af fun ah ai aF aj ak=>?_
    obtain⟨rfl,aG,am⟩:=aj
    have an:F1 _ ah ai [sv s.Name,sv s.Text]:=ak
    refine lv (F3 U6 u o an u) (al U6 o fun ao aH ap=>?_)
    have aq:SH _ _ _ _ _ [s7 ao [sv [],sv []] 148]:=ap
    refine lw [sv s.Name,sv s.Text] U6 aq fun aI x=>(nr (fl a5a u G7 m0 x u (mv u (lv (J8 u u) (nq (D5 ag u (fun ar G=>?_) (fun ar G=>?_)))))))
    ·refine sr (fl b0n u G7 m0 x u (av u (nq (j9 (i9 (c9 (c9 ?_)))))))
     cases oi G
     cases ae _ u
     refine i9 (c9 ?_)
     cases oi H
     refine c9 ?_
     cases oi l
     exact ey results126 ⟨m,u,x.s,am⟩
    refine j3 (x8 (qg (lv (B6 u u (C6 hi44 (b7.max (f.mono k.le)))) (mv u (i8 ?_)))))
    cases oi G
    exact qd ⟨_,u,m,u,x.s,q⟩
   rintro J _ ac au ⟨m,rfl,o,q⟩
   subst au
   refine sr (lv (u7 u u) (ns (C8 u (c6 (by omega)) (y4 (g8 (g8 (l6 ?_)))))))
   cases oi H
   exact L6 ⟨_,m,u,u,o,q⟩ trivial
  rintro _ aJ ⟨aK,aw,rfl,rfl,ax,aL⟩
  have l:=E9 l
  refine qr (lv (r_s u) (nq (j9 ?_)))
  cases oi l
  exact ey results126 ⟨aw,u,ax,(by decide :([]:r4).length≤maxLen)⟩
 refine j3 (qr (lv (r_s u) (nq (j9 ?_))))
 cases oi D
 exact ey results126 ⟨i,u,C.s,(by decide :([]:r4).length≤maxLen)⟩

theorem a8u {q0:r4}{r:Bool}(hS:SH w K [] w K [])(A:q0.length≤maxLen)(hm:a2p F q0=some r):
  Calls prog 100 #[sv q0] w (R_b w K r):=by
 rw [a2p] at hm
 refine ci func100 u ntmps100 (sr (lv (O6 u) (O7 (mv u (lv (J9 underlying9 u) (lv (r_m u) (nq ?_)))))))
 obtain⟨I,J,d⟩:=ob hm
 refine l4 (IE I w K [] K [(0,sv q0)] []) ?_ ?_
 ·refine j7 ?_
  obtain⟨ao,O,B⟩:=ob J
  refine qf (fun (k:Nat) (C:Unit)=>IV w K [] K [(0,sv q0),(5,V6 (q0.length:Int)),(6,V6 ((k:Nat):Int))] []) O ⟨K,u,hS,kr⟩ ?_ ?_
  ·rintro k C _ R ap hi21 S T ⟨l,rfl,f,m⟩
   refine sr (lv (u7 u u) (ns (C9 u (b8 (by omega)) (j3 (l5 (o4 (j7 (sr (mv u (av u (ns ?_)))))))))))
   obtain⟨U,V,W⟩:=ob S
   refine l4 (IV w K [] l [(0,sv q0),(5,V6 (q0.length:Int)),(6,V6 ((k:Nat):Int)),(25,.bool U)] []) ?_ ?_
   ·refine j5 (mv u (mv u ?_))
    obtain⟨aq,X,Y⟩:=ob V
    refine lv (N9 underlying9 u u X) ?_
    obtain⟨ar,aa,ab⟩:=ob Y
    refine lk b81 (a3p F f.enter0 aa) ?_
    rintro au aw ⟨o,rfl,i⟩
    have q:=(f.c0 i).t0
    refine lv (A4 u) (mv u (bt ab (fun a s=>?_) (fun a s=>?_)))
    ·refine lg a (i5 u) (lg a (i5 u) ?_)
     obtain⟨ax,ac,ad⟩:=ob s
     refine lg a (N9 underlying9 u u ac) (lg a (a8H (b:=(42:UInt8)) u u) (lv (n9 u a u) (mv u (bt ad (fun c x=>?_) (fun c x=>?_)))))
     ·refine lg c (i5 u) (lg c (i5 u) ?_)
      obtain⟨ay,ae,af⟩:=ob x
      refine lg c (N9 underlying9 u u ae) (lg c (a8H (b:=(63:UInt8)) u u) (lv (n9 u c u) (i8 ?_)))
      cases oi af
      exact qd ⟨o,u,q,i.le⟩
     refine lu c (lu c (lu c (lu c (lv (L8 u c u) (i8 ?_)))))
     cases oi x
     exact qd ⟨o,u,q,i.le⟩
    refine lu a (lu a (lu a (lu a (lv (L8 u a u) (mv u (lu u (lu u (lu u (lu u ?_)))))))))
    refine lv (L8 u u u) (i8 ?_)
    cases oi s
    exact qd ⟨o,u,q,i.le⟩
   rintro _ az ⟨D,rfl,G,ag⟩
   refine l5 (D5 W u (fun ah y=>?_) (fun ah y=>?_))
   ·refine sr (lv (O6 u) (nq (j9 (i9 (c9 (c9 ?_))))))
    cases oi y
    cases T _ u
    refine i9 (c9 ?_)
    cases oi B
    refine c9 ?_
    cases oi d
    exact ey results100 ⟨D,u,G⟩
   refine j3 (x8 (qg (lv (B6 u u (C6 hi21 A)) (mv u (i8 ?_)))))
   cases oi y
   exact qd ⟨_,u,D,u,G,(m.trans ag)⟩
  rintro C _ R ai ⟨l,rfl,f,m⟩
  subst ai
  refine sr (lv (u7 u u) (ns (C8 u (c6 (by omega)) (y4 (g8 (g8 (l6 ?_)))))))
  cases oi B
  exact qd ⟨_,l,u,u,f,m⟩
 rintro _ w9 ⟨s5,K6,rfl,rfl,H,aD⟩
 have d:=E9 d
 refine qr (mv u (lv (J9 underlying9 u) ?_))
 obtain⟨aE,aj,ak⟩:=ob d
 refine lk a5x (E2 F H.enter0 (a0Z A) (by decide :i7 1) (by decide :i7 12) aj) ?_
 rintro aF aG ⟨al,rfl,am⟩
 have an:=(H.c0 am).t0
 refine av u (nq (j9 ?_))
 cases oi ak
 exact ey results100 ⟨al,u,an⟩

theorem b3M (F:Nat): ∀{w:World} {K:F9} {k:Option Addr} {l o:Nat} {x:Option Addr} {y A:Nat} {gb14:Nat} {q0:q7} {q1:Int} {r:Bool} (hS:SH w K [] w K []) (bH:i7 q0.Kind) (bj:q0.Field.length≤maxLen) (W:b7 D9 K k l o q0.Words) (aB:i7 q0.From) (bk:i7 q0.To) (X:b7 F4 K x y A q0.Kids) (bI:i7 q1) (hG15:a4i y6 1 gb14 G8 w) (hm:J0 F q0 q1=some r),
  Calls prog 94 #[.agg #[V6 q0.Kind,sv q0.Field,V3 k l o,V6 q0.From,V6 q0.To,V3 x y A],V6 q1] w (R_b w K r):=by
 induction F with
 | zero=>intros;rename_i hm;rw [J0] at hm;cases hm
 | succ F ih=>
  intro w K k l o x y A gb14 q0 q1 r hS bH bj W aB bk X bI hG15 hm
  rw [J0] at hm
  refine ci func94 u ntmps94 (sr (bx u hS fun d dB bJ=>?_))
  have ak:SH _ _ _ _ _ [s7 d [V6 q0.Kind,sv q0.Field,V3 k l o,V6 q0.From,V6 q0.To,V3 x y A] 35]:=bJ
  refine lv (O6 u) (nr (lv (c2e c6O u (hG15.keep ak)) (fl a6x u E6 m0 ak u (lv (show RV _ _ _ _ (.tuple #[.agg #[.bool ((A7 q0.Kind).field_),V6 ((A7 q0.Kind).leastWords_),V6 ((A7 q0.Kind).mostWords_),V6 ((A7 q0.Kind).low_),V6 ((A7 q0.Kind).high_),.bool ((A7 q0.Kind).ranged_),V6 ((A7 q0.Kind).leastKids_),V6 ((A7 q0.Kind).mostKids_)],.bool (M1 q0.Kind)]) from c2g (cells:=y6) (m:=G8) underlying179 underlying3 c2B u u (hG15.keep ak) c7c) (mv u (lv (y3 u u) (lv (y3 u u) (al c2B ak fun af dC bK=>?_))))))))
  have bL:SH _ _ _ _ _ [s7 af [.bool false,V6 0,V6 0,V6 0,V6 0,.bool false,V6 0,V6 0] 177,_]:=bK
  refine lw [.bool ((A7 q0.Kind).field_),V6 ((A7 q0.Kind).leastWords_),V6 ((A7 q0.Kind).mostWords_),V6 ((A7 q0.Kind).low_),V6 ((A7 q0.Kind).high_),.bool ((A7 q0.Kind).ranged_),V6 ((A7 q0.Kind).leastKids_),V6 ((A7 q0.Kind).mostKids_)] c2B bL fun dD C=>(av u (ns (o4 ?_)))
  obtain⟨bM,bN,bO⟩:=ob hm
  refine l4 (IV w K [] K [(1,V6 q1),(2,pt d),(5,pt af),(41,.bool bM)] [s7 d [V6 q0.Kind,sv q0.Field,V3 k l o,V6 q0.From,V6 q0.To,V3 x y A] 35,s7 af [.bool ((A7 q0.Kind).field_),V6 ((A7 q0.Kind).leastWords_),V6 ((A7 q0.Kind).mostWords_),V6 ((A7 q0.Kind).low_),V6 ((A7 q0.Kind).high_),.bool ((A7 q0.Kind).ranged_),V6 ((A7 q0.Kind).leastKids_),V6 ((A7 q0.Kind).mostKids_)] 177]) ?_ ?_
  ·refine j5 (mv u (lv (A4 u) (mv u (bt bN (fun U aC=>?_) (fun U aC=>?_)))))
   ·refine lu U (lu U (lv (J6 u U u) (mv u ?_)))
    iterate 6 refine lu u ?_
    refine lv (J6 u u u) (mv u (lu u (lu u (lu u (A8 (uu u u) u (A8 (uu u u) u (A8 (uu u u) u (A8 (uu u u) u (lu u ?_)))))))))
    refine lv (J6 u u u) (i8 ?_)
    cases oi aC
    exact qd ⟨K,u,C.f1,kr⟩
   refine lg U (i5 u) (lg U (u7 u u) (lv (l9 u U u) (mv u (bt aC (fun D aD=>?_) (fun D aD=>?_)))))
   ·iterate 6 refine lu D ?_
    refine lv (J6 u D u) (mv u (lu u (lu u (lu u (A8 (uu u u) u (A8 (uu u u) u (A8 (uu u u) u (A8 (uu u u) u (lu u ?_)))))))))
    refine lv (J6 u u u) (i8 ?_)
    cases oi aD
    exact qd ⟨K,u,C.f1,kr⟩
   refine lg D (c7 b84 u) (lg D (w8 tf4 u m0 C u) (lg D (c7 Z3 u) (lg D (w8 G7 u m1 C u) (lg D (a2C (r:=([]:r4)) u u) (lg D (b5g underlying4 u u) (lv (l9 u D u) (mv u (bt aD (fun f aE=>?_) (fun f aE=>?_)))))))))
   ·refine lu f (lu f (lu f (A8 (uu u u) u (A8 (uu u u) u (A8 (uu u u) u (A8 (uu u u) u (lu f (lv (J6 u f u) (i8 ?_)))))))))
    cases oi aE
    exact qd ⟨K,u,C.f1,kr⟩
   refine lg f (c7 b84 u) (lg f (w8 tf4 u m0 C u) (lg f (i5 u) (bt aE (fun B aF=>?_) (fun B aF=>?_))))
   ·refine lg B (c7 Z3 u) (lg B (w8 G7 u m1 C u) ?_)
    obtain⟨dE,bP,bQ⟩:=ob aF
    refine A3 (wg u u B) u (A2 (vs:=[sv q0.Field]) b0l u) (J5 F C.enter0 bj bP) ?_
    rintro dF dG ⟨bR,rfl,bl⟩
    refine⟨_,u,?_⟩
    have bS:=(C.c0 bl).t2
    refine lg B (A4 u) (lg f (n9 u B u) (lv (l9 u f u) (i8 ?_)))
    cases oi bQ
    exact qd ⟨bR,u,bS.f1,bl.le⟩
   refine lu B (lu B (lu B (lu B (lg f (L8 u B u) (lv (l9 u f u) (i8 ?_))))))
   cases oi aF
   exact qd ⟨K,u,C.f1,kr⟩
  rintro _ dH ⟨bm,rfl,Y,G⟩
  refine l5 (D5 bO u (fun bT aG=>?_) (fun bT aG=>?_))
  ·refine sr (lv (O6 u) (nq (rr ?_)))
   cases oi aG
   exact ey results94 ⟨bm,u,Y.s⟩
  refine j3 (qs (o4 ?_))
  obtain⟨bU,bV,bW⟩:=ob aG
  refine l4 (IV w K [] bm [(1,V6 q1),(2,pt d),(5,pt af),(71,.bool bU)] [s7 d [V6 q0.Kind,sv q0.Field,V3 k l o,V6 q0.From,V6 q0.To,V3 x y A] 35,s7 af [.bool ((A7 q0.Kind).field_),V6 ((A7 q0.Kind).leastWords_),V6 ((A7 q0.Kind).mostWords_),V6 ((A7 q0.Kind).low_),V6 ((A7 q0.Kind).high_),.bool ((A7 q0.Kind).ranged_),V6 ((A7 q0.Kind).leastKids_),V6 ((A7 q0.Kind).mostKids_)] 177]) ?_ ?_
  ·refine j5 (fl a0B u W1 m0 Y u (lv (q9 underlying23 u (W.mono G)) (fl c23 u E6 m1 Y u (fl c25 u E6 m1 Y u ?_))))
   obtain⟨dI,bX,bY⟩:=ob bV
   refine lk a5x (E2 F Y.enter0 (W.mono G).rn (c4K _) (c4L _) bX) ?_
   rintro dJ dK ⟨bZ,rfl,aa⟩
   have ab:=(Y.c0 aa).t2
   refine lv (A4 u) (mv u (bt bY (fun i aH=>?_) (fun i aH=>?_)))
   ·iterate 9 refine lu i ?_
    refine lv (J6 u i u) (mv u ?_)
    iterate 8 refine lu u ?_
    refine lv (J6 u u u) (i8 ?_)
    cases oi aH
    exact qd ⟨bZ,u,ab,aa.le⟩
   refine lg i (c7 W9 u) (lg i (w8 a5u u m0 ab u) (lg i (q9 underlying33 u (X.mono (G.trans aa.le))) (lg i (c7 c28 u) (lg i (w8 E6 u m1 ab u) (lg i (c7 c29 u) (lg i (w8 E6 u m1 ab u) ?_))))))
   obtain⟨dL,ca,cb⟩:=ob aH
   refine A3 (wg u u i) u (A2 (vs:=[V6 (q0.Kids.length:Int),V6 ((A7 q0.Kind).leastKids_),V6 ((A7 q0.Kind).mostKids_)]) a5x u) (E2 F ab.enter0 (X.mono (G.trans aa.le)).rn (c4O _) (c4P _) ca) ?_
   rintro dM dN ⟨cc,rfl,aI⟩
   refine⟨_,u,?_⟩
   have ac:=(ab.c0 aI).t2
   refine lg i (A4 u) (lv (l9 u i u) (mv u (bt cb (fun q aJ=>?_) (fun q aJ=>?_))))
   ·iterate 8 refine lu q ?_
    refine lv (J6 u q u) (i8 ?_)
    cases oi aJ
    exact qd ⟨cc,u,ac,(aa.le.trans aI.le)⟩
   refine lg q (c7 a1w u) (lg q (w8 E6 u m0 ac u) (lg q (c7 c26 u) (lg q (w8 E6 u m1 ac u) (lg q (c7 c27 u) (lg q (w8 E6 u m1 ac u) ?_)))))
   obtain⟨dO,cd,ce⟩:=ob aJ
   refine A3 (wg u u q) u (A2 (vs:=[V6 q0.From,V6 ((A7 q0.Kind).low_),V6 ((A7 q0.Kind).high_)]) a5x u) (E2 F ac.enter0 aB (c4M _) (c4N _) cd) ?_
   rintro dP dQ ⟨cf,rfl,bn⟩
   refine⟨_,u,?_⟩
   have cg:=(ac.c0 bn).t2
   refine lg q (A4 u) (lv (l9 u q u) (i8 ?_))
   cases oi ce
   exact qd ⟨cf,u,cg,((aa.le.trans aI.le).trans bn.le)⟩
  rintro _ dR ⟨am,rfl,H,ad⟩
  refine l5 (D5 bW u (fun ch aK=>?_) (fun ch aK=>?_))
  ·refine sr (lv (O6 u) (nq (rr ?_)))
   cases oi aK
   exact ey results94 ⟨am,u,H.s⟩
  refine j3 (qs (o4 ?_))
  obtain⟨cj,ck,cl⟩:=ob aK
  refine l4 (IV w K [] am [(1,V6 q1),(2,pt d),(91,.bool cj)] [s7 d [V6 q0.Kind,sv q0.Field,V3 k l o,V6 q0.From,V6 q0.To,V3 x y A] 35]) ?_ ?_
  ·refine j5 (fl b5I u tf4 m1 H u (mv u (bt ck (fun I aL=>?_) (fun I aL=>?_))))
   ·refine lg I (c7 a4L u) (lg I (w8 E6 u m0 H u) (lg I (c7 a1w u) (lg I (w8 E6 u m0 H u) ?_)))
    obtain⟨dS,cm,cn⟩:=ob aL
    refine A3 (wg u u I) u (A2 (vs:=[V6 q0.To,V6 q0.From,V6 999999999]) a5x u) (E2 F H.enter0 bk aB (by decide :i7 999999999) cm) ?_
    rintro dT dU ⟨aM,rfl,an⟩
    refine⟨_,u,?_⟩
    have ag:=(H.c0 an).t2
    refine lg I (A4 u) (lv (n9 u I u) (mv u (bt cn (fun a aN=>?_) (fun a aN=>?_))))
    ·refine lu a (lu a (lu a (lu a (A8 (uu u u) u (A8 (uu u u) u (A8 (uu u u) u (lu a (lv (J6 u a u) (i8 ?_)))))))))
     cases oi aN
     exact qd ⟨aM,u,ag.s,an.le⟩
    refine lg a (c7 b5I u) (lg a (w8 tf4 u m1 ag u) (lg a (A4 u) (lg a (i5 u) (bt aN (fun O aO=>?_) (fun O aO=>?_)))))
    ·refine lg O (c7 a4L u) (lg O (w8 E6 u m0 ag u) (lg O (R2 u u) (lg a (n9 u O u) (lv (l9 u a u) (i8 ?_)))))
     cases oi aO
     exact qd ⟨aM,u,ag.s,an.le⟩
    refine lu O (lu O (lu O (lg a (L8 u O u) (lv (l9 u a u) (i8 ?_)))))
    cases oi aO
    exact qd ⟨aM,u,ag.s,an.le⟩
   iterate 6 refine lu I ?_
   refine lv (L8 u I u) (mv u (lg u (c7 b5I u) (lg u (w8 tf4 u m1 H u) (lg u (A4 u) (lg u (i5 u) (bt aL (fun R aP=>?_) (fun R aP=>?_)))))))
   ·refine lg R (c7 a4L u) (lg R (w8 E6 u m0 H u) (lg R (R2 u u) (lg u (n9 u R u) (lv (l9 u u u) (i8 ?_)))))
    cases oi aP
    exact qd ⟨am,u,H.s,kr⟩
   refine lu R (lu R (lu R (lg u (L8 u R u) (lv (l9 u u u) (i8 ?_)))))
   cases oi aP
   exact qd ⟨am,u,H.s,kr⟩
  rintro _ dV ⟨ao,rfl,aQ,ae⟩
  refine l5 (D5 cl u (fun cp aR=>?_) (fun cp aR=>?_))
  ·refine sr (lv (O6 u) (nq (rr ?_)))
   cases oi aR
   exact ey results94 ⟨ao,u,aQ.s⟩
  refine j3 (qs (sr (fl a0B u W1 m0 aQ u (lv (q9 underlying23 u (W.mono ((G.trans ad).trans ae))) (lv (r_m u) (nq ?_))))))
  obtain⟨cq,cr,ap⟩:=ob aR
  refine l4 (IE cq w K [] ao [(1,V6 q1),(2,pt d)] [s7 d [V6 q0.Kind,sv q0.Field,V3 k l o,V6 q0.From,V6 q0.To,V3 x y A] 35]) ?_ ?_
  ·refine j7 ?_
   obtain⟨dW,cs,bo⟩:=ob cr
   refine qf (fun (aS:Nat) (bp:Unit)=>IV w K [] ao [(1,V6 q1),(2,pt d),(93,V3 k l o),(94,V6 (q0.Words.length:Int)),(95,V6 ((aS:Nat):Int))] [s7 d [V6 q0.Kind,sv q0.Field,V3 k l o,V6 q0.From,V6 q0.To,V3 x y A] 35]) cs ⟨ao,u,aQ,kr⟩ ?_ ?_
   ·rintro aS bp _ ct dX hi150 cu cv ⟨aq,rfl,J,ar⟩
    refine sr (lv (u7 u u) (ns (C9 u (b8 (by omega)) (j3 (l5 (o4 (j7 (sr ?_))))))))
    obtain⟨ah,cw,cx⟩:=ob cu
    refine li underlying23 G7 (b7.mono (((G.trans ad).trans ae).trans ar) W) cw fun cy cz dY cA cB=>?_
    obtain⟨rfl,au⟩:=cA
    have cC:F1 _ cy cz [sv ah]:=cB
    refine lv (y9 G7 u J (cC 0 _ u)) (av u (ns ?_))
    obtain⟨cD,cE,cF⟩:=ob cx
    refine l4 (IV w K [] aq [(1,V6 q1),(2,pt d),(93,V3 k l o),(94,V6 (q0.Words.length:Int)),(95,V6 ((aS:Nat):Int)),(120,.bool cD)] [s7 d [V6 q0.Kind,sv q0.Field,V3 k l o,V6 q0.From,V6 q0.To,V3 x y A] 35]) ?_ ?_
    ·refine j5 (fl a6x u E6 m0 J u (lv (A9 u u) (mv u (bt cE (fun b aT=>?_) (fun b aT=>?_)))))
     ·refine lg b (i5 u) ?_
      obtain⟨dZ,cG,cH⟩:=ob aT
      refine A3 (wg u u b) u (A2 (vs:=[sv ah]) c3M u) (a8u F J.enter0 au cG) ?_
      rintro ea eb ⟨cI,rfl,ai⟩
      refine⟨_,u,?_⟩
      have aU:=(J.c0 ai).t1
      refine lg b (A4 u) (lg b (i5 u) (bt cH (fun V aV=>?_) (fun V aV=>?_)))
      ·refine lu V (lu V (lg b (J6 u V u) (lv (n9 u b u) (mv u (lu u (lu u (lu u (lu u (A8 (uu u u) u ?_)))))))))
       refine A8 (uu u u) u (A8 (uu u u) u (lu u (lv (J6 u u u) (i8 ?_))))
       cases oi aV
       exact qd ⟨cI,u,aU,ai.le⟩
      refine lg V (i5 u) ?_
      obtain⟨ec,cJ,cK⟩:=ob aV
      refine A3 (wg u u V) u (A2 (vs:=[sv ah]) b0l u) (J5 F aU.enter0 au cJ) ?_
      rintro ed ee ⟨bq,rfl,aw⟩
      refine⟨_,u,?_⟩
      have aj:=(aU.c0 aw).t1
      refine lg b (l9 u V u) (lv (n9 u b u) (mv u (bt cK (fun c aW=>?_) (fun c aW=>?_))))
      ·refine lu c (lu c (lu c (lu c (A8 (uu u u) u (A8 (uu u u) u (A8 (uu u u) u (lu c (lv (J6 u c u) (i8 ?_)))))))))
       cases oi aW
       exact qd ⟨bq,u,aj,(ai.le.trans aw.le)⟩
      refine lg c (c7 a6x u) (lg c (w8 E6 u m0 aj u) (lg c (R2 u u) (lg c (i5 u) (bt aW (fun S aX=>?_) (fun S aX=>?_)))))
      ·refine lg S (i5 u) ?_
       obtain⟨ef,cL,cM⟩:=ob aX
       refine A3 (wg u u S) u (A2 (vs:=[sv ah]) b0l u) (J5 F aj.enter0 au cL) ?_
       rintro eg eh ⟨cN,rfl,br⟩
       refine⟨_,u,?_⟩
       have cO:=(aj.c0 br).t1
       refine lg S (A4 u) (lg c (n9 u S u) (lv (l9 u c u) (i8 ?_)))
       cases oi cM
       exact qd ⟨cN,u,cO,((ai.le.trans aw.le).trans br.le)⟩
      refine lu S (lu S (lu S (lg c (L8 u S u) (lv (l9 u c u) (i8 ?_)))))
      cases oi aX
      exact qd ⟨bq,u,aj,(ai.le.trans aw.le)⟩
     refine lu b (lu b (lu b (lu b (A8 (uu u u) u (A8 (uu u u) u (lu b (lv (L8 u b u) (mv u (lg u (c7 a6x u) ?_)))))))))
     refine lg u (w8 E6 u m0 J u) (lg u (R2 u u) (lg u (i5 u) (bt aT (fun T aY=>?_) (fun T aY=>?_))))
     ·refine lg T (i5 u) ?_
      obtain⟨ei,cP,cQ⟩:=ob aY
      refine A3 (wg u u T) u (A2 (vs:=[sv ah]) b0l u) (J5 F J.enter0 au cP) ?_
      rintro ej ek ⟨cR,rfl,bs⟩
      refine⟨_,u,?_⟩
      have cS:=(J.c0 bs).t1
      refine lg T (A4 u) (lg u (n9 u T u) (lv (l9 u u u) (i8 ?_)))
      cases oi cQ
      exact qd ⟨cR,u,cS,bs.le⟩
     refine lu T (lu T (lu T (lg u (L8 u T u) (lv (l9 u u u) (i8 ?_)))))
     cases oi aY
     exact qd ⟨aq,u,J,kr⟩
    rintro _ el ⟨bu,rfl,bv,cT⟩
    refine l5 (D5 cF u (fun cU aZ=>?_) (fun cU aZ=>?_))
    ·refine sr (lv (O6 u) (nq (j9 (i9 (c9 (c9 ?_))))))
     cases oi aZ
     cases cv _ u
     refine i9 (c9 ?_)
     cases oi bo
     refine c9 ?_
     cases oi ap
     exact ey results94 ⟨bu,u,bv.s⟩
    refine j3 (x8 (qg (lv (B6 u u (C6 hi150 (b7.max (W.mono ((G.trans ad).trans ae))))) (mv u (i8 ?_)))))
    cases oi aZ
    exact qd ⟨_,u,bu,u,bv,(ar.trans cT)⟩
   rintro bp _ ct cV ⟨aq,rfl,J,ar⟩
   subst cV
   refine sr (lv (u7 u u) (ns (C8 u (c6 (by omega)) (y4 (g8 (g8 (l6 ?_)))))))
   cases oi bo
   exact qd ⟨_,aq,u,u,J,ar⟩
  rintro _ em ⟨en,ba,rfl,rfl,bz,bb⟩
  have ap:=E9 ap
  refine qs (sr (fl W9 u a5u m0 bz u (lv (q9 underlying33 u (b7.mono (((G.trans ad).trans ae).trans bb) X)) (lv (r_m u) (nq ?_)))))
  obtain⟨cW,cX,ax⟩:=ob ap
  refine l4 (IE cW w K [] ba [] []) ?_ ?_
  ·refine j7 ?_
   obtain⟨eo,cY,bA⟩:=ob cX
   have cZ:=bz.sb (sd sz)
   refine qf (fun (bB:Nat) (bC:Unit)=>IV w K [] ba [(1,V6 q1),(123,V3 x y A),(124,V6 (q0.Kids.length:Int)),(125,V6 ((bB:Nat):Int))] []) cY ⟨ba,u,cZ,kr⟩ ?_ ?_
   ·rintro bB bC _ da ep hi237 db dc ⟨bD,rfl,ay,az⟩
    refine sr (lv (u7 u u) (ns (C9 u (b8 (by omega)) (j3 (l5 (o4 (j7 (sr ?_))))))))
    obtain⟨s,dd,de⟩:=ob db
    refine li underlying33 B1 (b7.mono ((((G.trans ad).trans ae).trans bb).trans az) X) dd fun df dg eq dh di=>?_
    obtain⟨bc,bd,be,bf,bg,bh,rfl,dj,dk,dl,dm,dn,dp⟩:=S9 dh
    have dq:F1 _ df dg [V6 s.Kind,sv s.Field,V3 bc bd be,V6 s.From,V6 s.To,V3 bf bg bh]:=di
    refine lv (F3 B1 u ay dq u) (al B1 ay fun dr es dt=>?_)
    have du:SH _ _ _ _ _ [s7 dr [V6 0,sv [],V3 none 0 0,V6 0,V6 0,V3 none 0 0] 35]:=dt
    refine lw [V6 s.Kind,sv s.Field,V3 bc bd be,V6 s.From,V6 s.To,V3 bf bg bh] B1 du fun et aA=>(nr (lv (j6 (ds:=[V6 s.Kind,sv s.Field,V3 bc bd be,V6 s.From,V6 s.To,V3 bf bg bh]) B1 u m0 aA u u) (mv u (lv (I6 u u) ?_))))
    obtain⟨eu,dv,dw⟩:=ob de
    refine lk c6E (ih aA.enter0 dj dk dl dm dn dp (u0 _) (hG15.keep aA) dv) ?_
    rintro ev ew ⟨bE,rfl,bF⟩
    have bG:=(aA.c0 bF).t1
    refine lv (A4 u) (nq (D5 dw u (fun dx bi=>?_) (fun dx bi=>?_)))
    ·refine sr (lv (O6 u) (nq (j9 (i9 (c9 (c9 ?_))))))
     cases oi bi
     cases dc _ u
     refine i9 (c9 ?_)
     cases oi bA
     refine c9 ?_
     cases oi ax
     exact ey results94 ⟨bE,u,bG.s⟩
    refine j3 (x8 (qg (lv (B6 u u (C6 hi237 (b7.max (b7.mono (((G.trans ad).trans ae).trans bb) X)))) (mv u (i8 ?_)))))
    cases oi bi
    exact qd ⟨_,u,bE,u,bG.s,(az.trans bF.le)⟩
   rintro bC _ da dy ⟨bD,rfl,ay,az⟩
   subst dy
   refine sr (lv (u7 u u) (ns (C8 u (c6 (by omega)) (y4 (g8 (g8 (l6 ?_)))))))
   cases oi bA
   exact L6 ⟨_,bD,u,u,ay,az⟩ trivial
  rintro _ ex ⟨eA,dz,rfl,rfl,dA,eB⟩
  have ax:=E9 ax
  refine qr (lv (r_t u) (nq (j9 ?_)))
  cases oi ax
  exact ey results94 ⟨dz,u,dA⟩

theorem a0J {q0:q7}{r:Bool}(hS:SH w K [] w K [])(k:i7 q0.Kind)(l:q0.Field.length≤maxLen)(m:b7 D9 K A a b q0.Words)(o:i7 q0.From)(q:i7 q0.To)(s:b7 F4 K B c d q0.Kids)(hG14:a4i y6 1 f G8 w)(hm:N4 F q0=some r):
  Calls prog 34 #[.agg #[V6 q0.Kind,sv q0.Field,V3 A a b,V6 q0.From,V6 q0.To,V3 B c d]] w (R_b w K r):=by
 rw [N4] at hm
 refine ci func34 u ntmps34 (sr (bx u hS fun x J y=>?_))
 have i:SH _ _ _ _ _ [s7 x [V6 q0.Kind,sv q0.Field,V3 A a b,V6 q0.From,V6 q0.To,V3 B c d] 35]:=y
 refine lv (O6 u) (nr (lv (j6 (ds:=[V6 q0.Kind,sv q0.Field,V3 A a b,V6 q0.From,V6 q0.To,V3 B c d]) B1 u m0 i u u) ?_))
 obtain⟨O,C,D⟩:=ob hm
 refine lk c6E (b3M F i.enter0 k l m o q s (by decide :i7 4) (hG14.keep i) C) ?_
 rintro R S ⟨G,rfl,H⟩
 have I:=(i.c0 H).t1
 refine av u (nq (j9 ?_))
 cases oi D
 exact ey results34 ⟨G,u,I.s⟩

theorem b2z (F:Nat): ∀{w:World} {K:F9} {q0:r4} {q1:r4} {r:Bool} (hS:SH w K [] w K []) (i:q0.length≤maxLen) (k:q1.length≤maxLen) (hm:Q8 F q0 q1=some r),
  Calls prog 101 #[sv q0,sv q1] w (R_b w K r):=by
 induction F with
 | zero=>intros;rename_i hm;rw [Q8] at hm;cases hm
 | succ F ih=>
  intro w K q0 q1 r hS i k hm
  rw [Q8] at hm
  refine ci func101 u ntmps101 (sr (lv (O6 u) (ns (j7 (sr (mv u (lv (J8 (r:=([]:r4)) u u) (av u (nq ?_)))))))))
  refine R9 u (fun o=>?_) (fun o=>?_)
  ·have q:=a1a o hm
   refine sr (mv u (lv (J8 (r:=([]:r4)) u u) (av u (nq (j9 (i9 (c9 ?_)))))))
   cases oi q
   exact ey results101 ⟨K,u,hS⟩
  have q:=a09 o hm
  refine sr (mv u ?_)
  obtain⟨x5,T,U⟩:=ob q
  refine lv (N9 underlying9 u u T) (lv (a91 (b:=(42:UInt8)) u u) (av u (nq (D5 U u (fun V s=>?_) (fun V s=>?_)))))
  ·refine o4 ?_
   obtain⟨W,X,Y⟩:=ob s
   refine l4 (IV w K [] K [(4,.bool W)] []) ?_ ?_
   ·refine j5 (mv u ?_)
    obtain⟨aM,D,aa⟩:=ob X
    refine lv (a00 underlying9 u u D) (mv u ?_)
    obtain⟨aN,ab,ac⟩:=ob aa
    refine lk b6r (ih hS.enter0 (a1V i D) k ab) ?_
    rintro aO aP ⟨G,rfl,l⟩
    have m:=(hS.c0 l).t0
    refine mv u (bt ac (fun a x=>?_) (fun a x=>?_))
    ·refine lu a (lu a (lu a (A8 (uu u u) u (A8 (uu u u) u (A8 (uu u u) u (A8 (uu u u) u (lu a (lv (J6 u a u) (av u ?_)))))))))
     refine i8 ?_
     cases oi x
     exact qd ⟨G,u,m,l.le⟩
    refine lg a (i5 u) (lg a (a2C (r:=([]:r4)) u u) (lg a (i5 u) (bt x (fun c y=>?_) (fun c y=>?_))))
    ·refine lg c (i5 u) (lg c (i5 u) ?_)
     obtain⟨ad,H,ae⟩:=ob y
     refine lg c (a00 underlying9 u u H) ?_
     obtain⟨aQ,af,ag⟩:=ob ae
     refine A3 (wg u u c) u (A2 (vs:=[sv q0,sv ad]) b6r u) (ih m.enter0 i (a1V k H) af) ?_
     rintro aR aS ⟨ah,rfl,I⟩
     refine⟨_,u,?_⟩
     have ai:=(m.c0 I).t0
     refine lg a (n9 u c u) (lv (l9 u a u) (av u (i8 ?_)))
     cases oi ag
     exact qd ⟨ah,u,ai,(l.le.trans I.le)⟩
    refine lu c (lu c (lu c (lu c (lg a (L8 u c u) (lv (l9 u a u) (av u (i8 ?_)))))))
    cases oi y
    exact qd ⟨G,u,m,l.le⟩
   rintro _ aT ⟨aj,rfl,ak,aU⟩
   refine l5 (j9 (i9 (c9 ?_)))
   cases oi Y
   exact ey results101 ⟨aj,u,ak⟩
  refine sr (mv u (lv (J8 (r:=([]:r4)) u u) (av u (nq (D5 s u (fun al A=>?_) (fun al A=>?_))))))
  ·refine sr (lv (O6 u) (nq (j9 (i9 (c9 ?_)))))
   cases oi A
   exact ey results101 ⟨K,u,hS⟩
  refine j3 (x8 (qs (D4 mixed (by kernel_rfl) hS (km u ?_))))
  obtain⟨aV,am,an⟩:=ob A
  refine kv (N9 underlying9 u u am) (kv (a91 (b:=(63:UInt8)) u u) (km u (bt an (fun d B=>?_) (fun d B=>?_))))
  ·iterate 5 refine kn d ?_
   refine kv (J6 u d u) (km u (kg u (i5 u) ?_))
   obtain⟨aW,J,ao⟩:=ob B
   refine kg u (a00 underlying9 u u J) (kg u (i5 u) ?_)
   obtain⟨aX,O,ap⟩:=ob ao
   refine kg u (a00 underlying9 u u O) ?_
   obtain⟨aY,aq,ar⟩:=ob ap
   refine kcg u b6r (fun _ _ au aZ=>ih au.enter0 (a1V i J) (a1V k O) aq) (kv (n9 u u u) (kv (u9 u) (B4 ?_)))
   rintro ba ⟨aw,ax,bb⟩
   refine l5 (j9 ?_)
   cases oi ar
   exact ey results101 ⟨aw,u,ax⟩
  refine kg d (i5 u) ?_
  obtain⟨bc,ay,az⟩:=ob B
  refine kg d (N9 underlying9 u u ay) (kg d (i5 u) ?_)
  obtain⟨bd,aA,aB⟩:=ob az
  refine kg d (N9 underlying9 u u aA) (kg d (a91 u u) (kv (l9 u d u) (km u (bt aB (fun f C=>?_) (fun f C=>?_)))))
  ·refine kg f (i5 u) ?_
   obtain⟨be,R,aC⟩:=ob C
   refine kg f (a00 underlying9 u u R) (kg f (i5 u) ?_)
   obtain⟨bf,S,aD⟩:=ob aC
   refine kg f (a00 underlying9 u u S) ?_
   obtain⟨bg,aE,aF⟩:=ob aD
   refine kcg f b6r (fun _ _ aG bh=>ih aG.enter0 (a1V i R) (a1V k S) aE) (kv (n9 u f u) (kv (u9 u) (B4 ?_)))
   rintro bi ⟨aH,aI,bj⟩
   refine l5 (j9 ?_)
   cases oi aF
   exact ey results101 ⟨aH,u,aI⟩
  iterate 5 refine kn f ?_
  refine kv (L8 u f u) (kv (u9 u) (B4 ?_))
  rintro bk ⟨aJ,aK,bl⟩
  refine l5 (j9 ?_)
  cases oi C
  exact ey results101 ⟨aJ,u,aK⟩

theorem b2v {q0:r4}{q1:r4}{r:Bool}(hS:SH w K [] w K [])(k:q0.length≤maxLen)(l:q1.length≤maxLen)(hm:a2G F q0 q1=some r):
  Calls prog 43 #[sv q0,sv q1] w (R_b w K r):=by
 rw [a2G] at hm
 refine ci func43 u ntmps43 (sr (lv (O6 u) (nr (mv u ?_))))
 obtain⟨J,m,o⟩:=ob hm
 refine lk c3M (a8u F hS.enter0 k m) ?_
 rintro O R ⟨q,rfl,s⟩
 have c:=(hS.c0 s).t0
 refine mv u (bt o (fun b d=>?_) (fun b d=>?_))
 ·refine lg b (i5 u) ?_
  obtain⟨S,x,y⟩:=ob d
  refine A3 (wg u u b) u (A2 (vs:=[sv q1]) b0l u) (J5 F c.enter0 l x) ?_
  rintro T U ⟨A,rfl,B⟩
  refine⟨_,u,?_⟩
  have f:=(c.c0 B).t0
  refine lv (n9 u b u) (mv u (bt y (fun a i=>?_) (fun a i=>?_)))
  ·refine lg a (i5 u) (lg a (i5 u) ?_)
   obtain⟨V,C,D⟩:=ob i
   refine A3 (wg u u a) u (A2 (vs:=[sv q0,sv q1]) b6r u) (b2z F f.enter0 k l C) ?_
   rintro W X ⟨G,rfl,H⟩
   refine⟨_,u,?_⟩
   have I:=(f.c0 H).t0
   refine lv (n9 u a u) (av u (nq (j9 ?_)))
   cases oi D
   exact ey results43 ⟨G,u,I⟩
  refine lu a (lu a (lu a (lv (L8 u a u) (av u (nq (j9 ?_))))))
  cases oi i
  exact ey results43 ⟨A,u,f⟩
 refine lu b (lu b (lv (L8 u b u) (mv u (lu u (lu u (lu u (lv (L8 u u u) (av u (nq ?_)))))))))
 refine j9 ?_
 cases oi d
 exact ey results43 ⟨q,u,c⟩

theorem a8r {q0:A1}{q1:r4}{r:Int}(hS:SH w K [] w K [])(O:i7 q0.Id)(R:b7 K5 K A a b q0.Fields)(f:b7 N0 K B c d q0.Nums)(ay:q1.length≤maxLen)(hm:a3E F q0 q1=some r):
  Calls prog 45 #[.agg #[V6 q0.Id,V3 A a b,V3 B c d],sv q1] w (R_i w K r):=by
 rw [a3E] at hm
 refine ci func45 u ntmps45 (sr (bx u hS fun S az T=>?_))
 have y:SH _ _ _ _ _ [s7 S [V6 q0.Id,V3 A a b,V3 B c d] 44]:=T
 refine lv (N2 u) (O7 (lv (j6 (ds:=[V6 q0.Id,V3 A a b,V3 B c d]) E8 u m0 y u u) ?_))
 obtain⟨aA,U,V⟩:=ob hm
 refine lk c1u (a6C F y.enter0 O R f U) ?_
 rintro aB aC ⟨i,rfl,k⟩
 have C:=(y.c0 k).t1
 refine nq (D5 V u (fun W D=>?_) (fun W D=>?_))
 ·refine sr (fl a1S u a7y m0 C u (lv (q9 underlying42 u (f.mono k.le)) (lv (r_m u) (nq ?_))))
  obtain⟨X,Y,l⟩:=ob D
  refine l4 (IE X w K [] i [] []) ?_ ?_
  ·refine j7 ?_
   obtain⟨aD,aa,H⟩:=ob Y
   have ab:=C.sb (sd sz)
   refine qf (fun (I:Nat) (J:Unit)=>IV w K [] i [(1,sv q1),(10,V3 B c d),(11,V6 (q0.Nums.length:Int)),(12,V6 ((I:Nat):Int))] []) aa ⟨i,u,ab,kr⟩ ?_ ?_
   ·rintro I J _ ac aE hi44 ad ae ⟨m,rfl,o,q⟩
    refine sr (lv (u7 u u) (ns (C9 u (b8 (by omega)) (j3 (l5 (o4 (j7 (sr ?_))))))))
    obtain⟨s,af,ag⟩:=ob ad
    refine li underlying42 Y9 (f.mono (k.le.trans q)) af fun ah ai aF aj ak=>?_
    obtain⟨rfl,aG,am⟩:=aj
    have an:F1 _ ah ai [sv s.Name,V6 s.Num]:=ak
    refine lv (F3 Y9 u o an u) (al Y9 o fun ao aH ap=>?_)
    have aq:SH _ _ _ _ _ [s7 ao [sv [],V6 0] 137]:=ap
    refine lw [sv s.Name,V6 s.Num] Y9 aq fun aI x=>(nr (fl a6o u G7 m0 x u (mv u (lv (J8 u u) (nq (D5 ag u (fun ar G=>?_) (fun ar G=>?_)))))))
    ·refine sr (fl b2Z u E6 m0 x u (av u (nq (j9 (i9 (c9 (c9 ?_)))))))
     cases oi G
     cases ae _ u
     refine i9 (c9 ?_)
     cases oi H
     refine c9 ?_
     cases oi l
     exact ey results45 ⟨m,u,x.s,am⟩
    refine j3 (x8 (qg (lv (B6 u u (C6 hi44 (b7.max (f.mono k.le)))) (mv u (i8 ?_)))))
    cases oi G
    exact qd ⟨_,u,m,u,x.s,q⟩
   rintro J _ ac au ⟨m,rfl,o,q⟩
   subst au
   refine sr (lv (u7 u u) (ns (C8 u (c6 (by omega)) (y4 (g8 (g8 (l6 ?_)))))))
   cases oi H
   exact L6 ⟨_,m,u,u,o,q⟩ trivial
  rintro _ aJ ⟨aK,aw,rfl,rfl,ax,aL⟩
  have l:=E9 l
  refine qr (lv (u9 (v:=V6 (-1)) u) (nq (j9 ?_)))
  cases oi l
  exact ey results45 ⟨aw,u,ax,(by decide :i7 (-1))⟩
 refine j3 (qr (lv (u9 (v:=V6 (-1)) u) (nq (j9 ?_))))
 cases oi D
 exact ey results45 ⟨i,u,C.s,(by decide :i7 (-1))⟩

theorem a7F {q0:r4}{q1:r4}{r:Int}(hS:SH w K [] w K [])(aC:q0.length≤maxLen)(aD:q1.length≤maxLen)(hm:a0h F q0 q1=some r):
  Calls prog 48 #[sv q0,sv q1] w (R_i w K r):=by
 rw [a0h] at hm
 refine ci func48 u ntmps48 (sr (lv (N2 u) (ns (o4 ?_))))
 obtain⟨o3,h4,h5⟩:=ob hm
 refine l4 (IV w K [] K [(0,sv q0),(1,sv q1),(18,.bool o3)] []) ?_ ?_
 ·refine j5 (mv u ?_)
  obtain⟨ct,aH,aI⟩:=ob h4
  refine lk b0l (J5 F hS.enter0 aC aH) ?_
  rintro cu cv ⟨aJ,rfl,O⟩
  have R:=(hS.c0 O).t0
  refine lv (A4 u) (mv u (bt aI (fun o S=>?_) (fun o S=>?_)))
  ·refine lu o (lu o (lu o (lv (J6 u o u) (i8 ?_))))
   cases oi S
   exact qd ⟨aJ,u,R,O.le⟩
  refine lg o (i5 u) ?_
  obtain⟨cw,aK,aL⟩:=ob S
  refine A3 (wg u u o) u (A2 (vs:=[sv q1]) b0l u) (J5 F R.enter0 aD aK) ?_
  rintro cx cy ⟨aM,rfl,ag⟩
  refine⟨_,u,?_⟩
  have aN:=(R.c0 ag).t0
  refine lg o (A4 u) (lv (l9 u o u) (i8 ?_))
  cases oi aL
  exact qd ⟨aM,u,aN,(O.le.trans ag.le)⟩
 rintro _ w9 ⟨I,rfl,ah,cA⟩
 refine l5 (D5 h5 u (fun aO T=>?_) (fun aO T=>?_))
 ·refine sr (lv (u9 (v:=V6 (-1)) u) (nq (rr ?_)))
  cases oi T
  exact ey results48 ⟨I,u,ah,(by decide :i7 (-1))⟩
 refine j3 (qr (mv u (lv (J9 underlying9 u) (lv (y7 u u) ?_))))
 obtain⟨ai,aP,aQ⟩:=ob T
 refine b6h (t:=D6) wn u underlying46 E6 u u u aP ⟨u,I5⟩ ah fun b cs35 cB hmx39 hrow37 aR=>?_
 obtain⟨m40,hm41⟩: ∃m,m=ai.length:=⟨_,u⟩
 rw [←hm41] at hmx39
 rw [←hm41]
 refine av u (O7 (mv u (lv (a69 underlying46 u hm41) (lv (r_m u) (nq ?_)))))
 obtain⟨aj,aS,aT⟩:=ob aQ
 refine l4 (fun E' w'=>∃cs49 s,E'=[(0,sv q0),(1,sv q1),(5,V3 (some ⟨b,0,none⟩) m40 m40)]∧SH w K [] w' s [s7 b cs49 3]∧M0 I s∧E1 true D6 s cs49 aj∧m40=aj.length) ?_ ?_
 ·refine j7 ?_
  obtain⟨cC,aU,aV⟩:=ob aS
  refine qF (fun (x:Nat) (J:(List Int)) E' w'=>∃cs61 y,E'=[(0,sv q0),(1,sv q1),(5,V3 (some ⟨b,0,none⟩) m40 m40),(24,V6 (ai.length:Int)),(25,V6 ((x:Nat):Int))]∧SH w K [] w' y [s7 b cs61 3]∧M0 I y∧E1 true D6 y cs61 J∧m40=J.length) aU ⟨cs35,I,u,aR,kr,hrow37,hm41⟩ ?_ ?_
  ·rintro x J _ aW cD hi65 aX ⟨cs61,y,rfl,U,V,hrow62,hm63⟩
   refine sr (lv (u7 u u) (ns (C9 u (b8 (by omega)) (j3 (l5 (o4 (j7 (sr (mv u (av u (nq (j5 ?_))))))))))))
   refine mv u (mv u (mv u ?_))
   obtain⟨aY,W,aZ⟩:=ob aX
   obtain⟨cE,ba,bb⟩:=E1.at hrow62 W
   obtain⟨rfl,cF⟩:=ba
   have cG: ∀(j:Nat) (d:Value),[V6 aY][j]? =some d→cs61[((x:Nat):Int).toNat*D6.size+j]? =some d:=bb
   refine lv (J7 (t:=D6) underlying46 E6 u u hm63 W) (a3b (t:=D6) (v:=V6 ((x:Nat):Int)) (e:=((x:Nat):Int)) wn E6 u u ⟨u,(b28 hi65 (b9u hm41 hmx39))⟩ U hrow62 W fun cs76 cH hrow78 bc=>?_)
   have hm80:=hm63.trans (List.length_set (i:=((x:Nat):Int).toNat) (a:=((x:Nat):Int))).symm
   refine nb (qg (lv (B6 u u (C6 hi65 (b9u hm41 hmx39))) (mv u (i8 ?_))))
   cases oi aZ
   exact qd ⟨cs76,y,u,bc,V,hrow78,hm80⟩
  rintro J _ aW bd ⟨cs61,y,rfl,U,V,hrow62,hm63⟩
  subst bd
  refine sr (lv (u7 u u) (ns (C8 u (c6 (by omega)) (y4 (g8 (g8 (l6 ?_)))))))
  cases oi aV
  exact qd ⟨cs61,y,u,U,V,hrow62,hm63⟩
 rintro _ cI ⟨cs49,s,rfl,be,cJ,hrow50,hm51⟩
 refine qs (sr (lv (u9 (v:=V6 1) u) (nq ?_)))
 obtain⟨ak,bf,bg⟩:=ob aT
 refine l4 (fun E' w'=>∃cs89 D,E'=[(1,sv q1),(5,V3 (some ⟨b,0,none⟩) m40 m40)]∧SH w K [] w' D [s7 b cs89 3]∧M0 s D∧E1 true D6 D cs89 ak∧m40=ak.length) ?_ ?_
 ·refine j7 ?_
  obtain⟨cK,bh,bi⟩:=ob bf
  refine qw (fun (l:Int×(List Int)) E' w'=>∃cs101 q,E'=[(0,sv q0),(1,sv q1),(5,V3 (some ⟨b,0,none⟩) m40 m40),(7,V6 l.1)]∧SH w K [] w' q [s7 b cs101 3]∧M0 s q∧i7 l.1∧E1 true D6 q cs101 l.2∧m40=l.2.length) bh ⟨cs49,s,u,be,kr,(by decide :i7 1),hrow50,hm51⟩ ?_
  rintro l _ cL cM bj bk ⟨cs101,q,rfl,X,al,bl,hrow102,hm103⟩
  refine o4 (sr (mv u (mv u (lv (J9 underlying9 u) (lv (V2 u u) (nq (D5 bj u (fun bm Y=>?_) (fun bm Y=>?_))))))))
  ·refine j3 (qs (j7 (sr (mv u ?_))))
   obtain⟨bn,am,bo⟩:=ob Y
   obtain⟨cN,bp,bq⟩:=E1.at hrow102 am
   obtain⟨rfl,br⟩:=bp
   have bs: ∀(j:Nat) (d:Value),[V6 bn][j]? =some d→cs101[(0:Int).toNat*D6.size+j]? =some d:=bq
   refine lv (J7 (t:=D6) underlying46 E6 u u hm103 am) (lv (a1B E6 u u (bs 0 _ u) (X.hasObj (.head _))) (av u (nr (mv u (mv u ?_)))))
   obtain⟨bu,aa,bv⟩:=ob bo
   obtain⟨cO,bx,bz⟩:=E1.at hrow102 aa
   obtain⟨rfl,cP⟩:=bx
   have cQ: ∀(j:Nat) (d:Value),[V6 bu][j]? =some d→cs101[(0:Int).toNat*D6.size+j]? =some d:=bz
   refine lv (J7 (t:=D6) underlying46 E6 u u hm103 aa) (a3b (t:=D6) (v:=V6 l.1) (e:=l.1) wn E6 u u ⟨u,bl⟩ X hrow102 aa fun cs125 cR hrow127 bA=>?_)
   have hm129:=hm103.trans (List.length_set (i:=(0:Int).toNat) (a:=l.1)).symm
   refine nr (lv (u9 (v:=V6 1) u) (nq ?_))
   obtain⟨an,bB,bC⟩:=ob bv
   refine l4 (fun E' w'=>∃cs137 G,E'=[(0,sv q0),(1,sv q1),(5,V3 (some ⟨b,0,none⟩) m40 m40),(7,V6 l.1)]∧SH w K [] w' G [s7 b cs137 3]∧M0 q G∧E1 true D6 G cs137 an∧m40=an.length) ?_ ?_
   ·refine j7 ?_
    obtain⟨cS,bD,bE⟩:=ob bB
    refine qw (fun (f:Int×Int×(List Int)) E' w'=>∃cs150 H,E'=[(0,sv q0),(1,sv q1),(5,V3 (some ⟨b,0,none⟩) m40 m40),(7,V6 l.1),(8,V6 f.1),(9,V6 f.2.1)]∧SH w K [] w' H [s7 b cs150 3]∧M0 q H∧i7 f.1∧i7 f.2.1∧E1 true D6 H cs150 f.2.2∧m40=f.2.2.length) bD ⟨cs125,q,u,bA,kr,br,(by decide :i7 1),hrow127,hm129⟩ ?_
    rintro f _ cT cU bF bG ⟨cs150,H,rfl,ao,ap,bH,cV,hrow151,hm152⟩
    refine o4 (sr (mv u (mv u (lv (J9 underlying9 u) (lv (V2 u u) (nq (D5 bF u (fun bI ab=>?_) (fun bI ab=>?_))))))))
    ·refine j3 (qs (j7 (sr (mv u (av u (ns (o4 (D4 mixed (by kernel_rfl) ao (km u ?_)))))))))
     refine km u (kv (I6 u u) ?_)
     obtain⟨cW,bJ,bK⟩:=ob ab
     refine kv (N9 underlying9 u u bJ) (km u (km u (kv (I6 u u) ?_)))
     obtain⟨cX,bL,bM⟩:=ob bK
     refine kv (N9 underlying9 u u bL) (kv (a8H u u) (B4 ?_))
     rintro cY ⟨ac,aq,B⟩
     refine l5 ?_
     obtain⟨c,bN,bO⟩:=ob bM
     refine l4 (IW w K [] ac [(0,sv q0),(1,sv q1),(5,V3 (some ⟨b,0,none⟩) m40 m40),(7,V6 l.1),(9,V6 f.2.1),(10,V6 c)] [s7 b cs150 3] (i7 c)) ?_ ?_
     ·refine D5 bN u (fun bP ad=>?_) (fun bP ad=>?_)
      ·refine j5 (mv u (lv (y7 u u) (av u (i8 ?_))))
       cases oi ad
       exact qd ⟨ac,u,aq,kr,(u0 _)⟩
      refine j3 ?_
      cases oi ad
      exact qd ⟨ac,u,aq,kr,bH⟩
     rintro _ cZ ⟨ar,rfl,au,C,bQ⟩
     refine qr (mv u (mv u ?_))
     obtain⟨bR,aw,bS⟩:=ob bO
     obtain⟨da,bT,bU⟩:=E1.at (E1.mono (B.trans C) hrow151) aw
     obtain⟨rfl,bV⟩:=bT
     have bW: ∀(j:Nat) (d:Value),[V6 bR][j]? =some d→cs150[f.2.1.toNat*D6.size+j]? =some d:=bU
     refine lv (J7 (t:=D6) underlying46 E6 u u hm152 aw) (lv (a1B E6 u u (bW 0 _ u) (au.hasObj (.head _))) (av u (nq ?_)))
     have ae:=au.drew
     refine wh1 (fun w'=>H0 ar w') (fun w'=>B0 b cs150 w') 16 [(6,7),(6,15),(6,16),(7,14),(7,15),(7,16),(12,13),(12,15),(12,16),(13,14),(13,15),(13,16),(14,15),(14,16),(15,16)] mixed (ae.hasK kr) (fun _=>ae.hasObj (.head _)) (gt (i5 u) (gt (i5 u) (gt (i5 u) (gt (i5 u) (gt (i5 u) ?_)))))
     obtain⟨k,ax,bX⟩:=ob bS
     obtain⟨db,bY,bZ⟩:=E1.at (E1.mono (B.trans C) hrow151) ax
     obtain⟨rfl,dc⟩:=bY
     have ca: ∀(j:Nat) (d:Value),[V6 k][j]? =some d→cs150[f.2.1.toNat*D6.size+j]? =some d:=bZ
     refine gt (J7 (t:=D6) underlying46 E6 u u hm152 ax) (gf (fun _ h=>(a1B E6 u u (ca 0 _ u) h)) (gt (y7 u u) (gt (i5 u) (gt (i5 u) (gt (I6 u u) ?_)))))
     obtain⟨A,ay,cb⟩:=ob bX
     obtain⟨dd,cc,cd⟩:=E1.at (E1.mono (B.trans C) hrow151) ay
     obtain⟨rfl,de⟩:=cc
     have ce: ∀(j:Nat) (d:Value),[V6 A][j]? =some d→cs150[(z8 (f.2.1-(1:Int))).toNat*D6.size+j]? =some d:=cd
     refine gt (J7 (t:=D6) underlying46 E6 u u hm152 ay) (gf (fun _ h=>(a1B E6 u u (ce 0 _ u) h)) (gt (y7 u u) (gt (c3u u u u) ?_)))
     obtain⟨cf,af,cg⟩:=ob cb
     obtain⟨df,ch,cj⟩:=E1.at (E1.mono (B.trans C) hrow151) af
     obtain⟨rfl,dg⟩:=ch
     have dh: ∀(j:Nat) (d:Value),[V6 cf][j]? =some d→cs150[f.2.1.toNat*D6.size+j]? =some d:=cj
     refine gt (J7 (t:=D6) underlying46 E6 u u hm152 af) (gn (a3b (t:=D6) (v:=V6 (if (z8 (A+(1:Int)))<(if (z8 (k+(1:Int)))<c then (z8 (k+(1:Int))) else c) then (z8 (A+(1:Int))) else (if (z8 (k+(1:Int)))<c then (z8 (k+(1:Int))) else c))) (e:=(if (z8 (A+(1:Int)))<(if (z8 (k+(1:Int)))<c then (z8 (k+(1:Int))) else c) then (z8 (A+(1:Int))) else (if (z8 (k+(1:Int)))<c then (z8 (k+(1:Int))) else c))) wn E6 u u ⟨u,(b9r (b9r bQ (u0 _)) (u0 _))⟩ ae (E1.mono (B.trans C) hrow151) af fun cs212 di hrow214 az=>?_))
     have hm216:=hm152.trans (List.length_set (i:=f.2.1.toNat) (a:=(if (z8 (A+(1:Int)))<(if (z8 (k+(1:Int)))<c then (z8 (k+(1:Int))) else c) then (z8 (A+(1:Int))) else (if (z8 (k+(1:Int)))<c then (z8 (k+(1:Int))) else c)))).symm
     refine i8 (qh (az.hasK kr) (fun h=>by cases h) (gd' (x8 (l5 (j5 (mv u (lv (y7 u u) (av u (i8 ?_)))))))))
     cases oi cg
     exact qd ⟨_,u,cs212,ar,u,az,((ap.trans B).trans C),bV,(u0 _),hrow214,hm216⟩
    refine y4 (g8 (g8 ?_))
    cases oi ab
    cases bG _ u
    refine l6 ?_
    cases oi bE
    exact qd ⟨cs150,H,u,ao,ap,hrow151,hm152⟩
   rintro _ dj ⟨cs137,G,rfl,ck,cl,hrow138,hm139⟩
   refine x8 (l5 (j5 (mv u (lv (y7 u u) (av u (i8 ?_))))))
   cases oi bC
   exact qd ⟨_,u,cs137,G,u,ck,(al.trans cl),(u0 _),hrow138,hm139⟩
  refine y4 (g8 (g8 ?_))
  cases oi Y
  cases bk _ u
  refine l6 ?_
  cases oi bi
  exact qd ⟨cs101,q,u,X,al,hrow102,hm103⟩
 rintro _ dk ⟨cs89,D,rfl,aA,dl,hrow90,hm91⟩
 refine qr (mv u (mv u (lv (J9 underlying9 u) ?_)))
 obtain⟨cm,aB,cn⟩:=ob bg
 obtain⟨dm,cp,cq⟩:=E1.at hrow90 aB
 obtain⟨rfl,cr⟩:=cp
 have cs: ∀(j:Nat) (d:Value),[V6 cm][j]? =some d→cs89[(q1.length:Int).toNat*D6.size+j]? =some d:=cq
 refine lv (J7 (t:=D6) underlying46 E6 u u hm91 aB) (lv (a1B E6 u u (cs 0 _ u) (aA.hasObj (.head _))) (av u (nq (j9 ?_))))
 cases oi cn
 exact ey results48 ⟨D,u,aA.s,cr⟩

theorem a7H {q0:Int}{q1:Int}{r:Int}(hS:SH w K [] w K [])(l:i7 q0)(m:i7 q1)(hm:a1k F q0 q1=some r):
  Calls prog 137 #[V6 q0,V6 q1] w (R_i w K r):=by
 rw [a1k] at hm
 refine ci func137 u ntmps137 (sr (lv (N2 u) (ns ?_)))
 obtain⟨c,o,q⟩:=ob hm
 refine l4 (IW w K [] K [(0,V6 c)] [] (i7 c)) ?_ ?_
 ·refine j7 ?_
  obtain⟨T,s,x⟩:=ob o
  refine qw (fun (a:Int×Int)=>IW w K [] K [(0,V6 a.1),(1,V6 a.2)] [] (i7 a.1∧i7 a.2)) s ⟨K,u,hS,kr,l,m⟩ ?_
  rintro a _ U V y A ⟨B,rfl,d,f,i,C⟩
  refine o4 (sr (mv u (lv (R2 u u) (nq (D5 y u (fun D b=>?_) (fun D b=>?_))))))
  ·refine j3 (l5 (j7 (D4 mixed (by kernel_rfl) d (km u (km u (km u ?_))))))
   obtain⟨W,k,G⟩:=ob b
   refine kv (a8J u u k) (kv (u9 u) (kv (u9 u) (B4 ?_)))
   rintro X ⟨H,I,J⟩
   refine x8 ?_
   cases oi G
   exact qd ⟨_,u,H,u,I,(f.trans J),C,(b29 i k)⟩
  refine y4 (g8 (g8 ?_))
  cases oi b
  cases A _ u
  refine l6 ?_
  cases oi x
  exact qd ⟨B,u,d,f,i⟩
 rintro _ Y ⟨O,rfl,R,aa,S⟩
 refine qr (mv u (mv u (lv (a8I u) (lv (b9x u u) (av u (nq (j9 ?_)))))))
 cases oi q
 exact ey results137 ⟨O,u,R,(b9q S (u0 _))⟩

theorem a9C {q0:a6l}{r:Bool}(hS:SH w K [] w K [])(l:i7 q0.Up)(m:i7 q0.Down)(hm:a3e F q0=some r):
  Calls prog 76 #[.agg #[V6 q0.Up,V6 q0.Down]] w (R_b w K r):=by
 rw [a3e] at hm
 refine ci func76 u ntmps76 (sr (bx u hS fun g3 R o=>?_))
 have f:SH _ _ _ _ _ [s7 g3 [V6 q0.Up,V6 q0.Down] 50]:=o
 refine lv (O6 u) (nr (fl b5J u E6 m0 f u ?_))
 obtain⟨S,q,s⟩:=ob hm
 refine lk a5x (E2 F f.enter0 l (by decide :i7 (-1000000000)) (by decide :i7 1000000000) q) ?_
 rintro T U ⟨x,rfl,y⟩
 have d:=(f.c0 y).t1
 refine mv u (bt s (fun b i=>?_) (fun b i=>?_))
 ·refine lg b (c7 b1k u) (lg b (w8 E6 u m0 d u) ?_)
  obtain⟨V,A,B⟩:=ob i
  refine A3 (wg u u b) u (A2 (vs:=[V6 q0.Down,V6 1,V6 1000000000]) a5x u) (E2 F d.enter0 m (by decide :i7 1) (by decide :i7 1000000000) A) ?_
  rintro W X ⟨C,rfl,D⟩
  refine⟨_,u,?_⟩
  have c:=(d.c0 D).t1
  refine lv (n9 u b u) (mv u (bt B (fun a k=>?_) (fun a k=>?_)))
  ·refine lg a (c7 b5J u) (lg a (w8 E6 u m0 c u) (lg a (c7 b1k u) (lg a (w8 E6 u m0 c u) ?_)))
   obtain⟨Y,G,H⟩:=ob k
   refine A3 (wg u u a) u (A2 (vs:=[V6 q0.Up,V6 q0.Down]) c3U u) (a7H F c.enter0 l m G) ?_
   rintro aa ab ⟨I,rfl,J,ac⟩
   refine⟨_,u,?_⟩
   have O:=(c.c0 J).t1
   refine lg a (A9 u u) (lv (n9 u a u) (av u (nq (j9 ?_))))
   cases oi H
   exact ey results76 ⟨I,u,O.s⟩
  iterate 6 refine lu a ?_
  refine lv (L8 u a u) (av u (nq (j9 ?_)))
  cases oi k
  exact ey results76 ⟨C,u,c.s⟩
 refine lu b (lu b (lu b (lv (L8 u b u) (mv u ?_))))
 iterate 6 refine lu u ?_
 refine lv (L8 u u u) (av u (nq (j9 ?_)))
 cases oi i
 exact ey results76 ⟨x,u,d.s⟩

theorem b3L {q0:Int}{q1:Int}{r:a6l×Bool}(hS:SH w K [] w K [])(B:i7 q0)(C:i7 q1)(hm:a43 F q0 q1=some r):
  Calls prog 136 #[V6 q0,V6 q1] w fun e w'=>∃K',e= .returned (.tuple #[.agg #[V6 r.1.Up,V6 r.1.Down],.bool r.2])∧SH w K [] w' K' []∧i7 r.1.Up∧i7 r.1.Down:=by
 rw [a43] at hm
 refine ci func136 u ntmps136 (sr (al V4 hS fun g3 w4 D=>?_))
 have o:SH _ _ _ _ _ [s7 g3 [V6 0,V6 0] 50]:=D
 refine lv (O6 u) (O7 (mv u (lv (u7 u u) (nq ?_))))
 obtain⟨d,G,H⟩:=ob hm
 refine l4 (IW w K [] K [(0,V6 d.1),(1,V6 d.2),(4,pt g3)] [s7 g3 [V6 0,V6 0] 50] (i7 d.1∧i7 d.2)) ?_ ?_
 ·refine D5 G u (fun I i=>?_) (fun I i=>?_)
  ·refine j5 (mv u (lv (a8I u) (mv u (lv (a8I u) (av u (av u (i8 ?_)))))))
   cases oi i
   exact qd ⟨K,u,o,kr,(u0 _),(u0 _)⟩
  refine j3 ?_
  cases oi i
  exact qd ⟨K,u,o,kr,B,C⟩
 rintro _ ah ⟨ai,rfl,q,aj,J,O⟩
 refine qr (mv u (mv u ?_))
 obtain⟨ak,R,S⟩:=ob H
 refine lk c3U (a7H F q.enter0 J O R) ?_
 rintro am an ⟨T,rfl,U,ao⟩
 have V:=(q.c0 U).t1
 refine av u (ns ?_)
 have s:=V.drew
 refine wh1 (fun w'=>H0 T w') (fun w'=>True) 9 [] mixed (s.hasK kr) (fun _=>trivial) (gt (i5 u) (gt (i5 u) ?_))
 obtain⟨a,k,W⟩:=ob S
 refine gt (a4D u u k) (gt (i5 u) (gt (i5 u) ?_))
 obtain⟨b,l,X⟩:=ob W
 refine gt (a4D u u l) (gt (C3 (cs:=#[V6 a,V6 b]) c6M V4 u (by kernel_rfl)) (gn (al V4 s fun Y ap aa=>?_)))
 have x:SH _ _ _ _ _ [s7 Y [V6 0,V6 0] 50,_]:=aa
 refine i8 (qh (x.hasK kr) (fun _=>trivial) (gn (lw [V6 a,V6 b] V4 x fun aq f=>(i8 (qh (f.hasK kr) (fun _=>trivial) (gd' (qs (sr (lv (j6 (ds:=[V6 a,V6 b]) V4 u m0 f u u) ?_)))))))))
 obtain⟨ar,ab,ac⟩:=ob X
 refine lk c6C ((a9C F (q0:=(a6l.mk a b))) f.enter0 (a32 k) (a32 l) ab) ?_
 rintro au aw ⟨ad,rfl,ae⟩
 have y:=(f.c0 ae).t2
 refine lv (A4 u) (nq (D5 ac u (fun af m=>?_) (fun af m=>?_)))
 ·refine sr ?_
  cases m
 refine j3 (qr (lv (j6 (ds:=[V6 a,V6 b]) V4 u m0 y u u) (lw [V6 a,V6 b] V4 y.f1 fun ax A=>(lv (r_t u) (nq (j9 ?_))))))
 cases oi m
 exact S7 (vs:=[_,_]) results136 ⟨⟨_,_,u,B2 V4 (cs:=[V6 a,V6 b]) (fun j c e=>by rw [Nat.zero_add,A.mem_obj m0];exact e) (.inl ⟨u,u,u⟩)⟩,u,trivial⟩ ⟨ad,u,A.s,(a32 k),(a32 l)⟩

theorem b4G {q0:Int}{q1:Int}{r:a6l×Bool}(hS:SH w K [] w K [])(q:i7 q0)(s:i7 q1)(hm:a4j F q0 q1=some r):
  Calls prog 75 #[V6 q0,V6 q1] w fun e w'=>∃K',e= .returned (.tuple #[.agg #[V6 r.1.Up,V6 r.1.Down],.bool r.2])∧SH w K [] w' K' []∧i7 r.1.Up∧i7 r.1.Down:=by
 rw [a4j] at hm
 refine ci func75 u ntmps75 (sr (al V4 hS fun g3 w4 D=>?_))
 have x:SH _ _ _ _ _ [s7 g3 [V6 0,V6 0] 50]:=D
 refine lv (O6 u) (ns (o4 ?_))
 obtain⟨G,H,I⟩:=ob hm
 refine l4 (IV w K [] K [(0,V6 q0),(1,V6 q1),(4,pt g3),(17,.bool G)] [s7 g3 [V6 0,V6 0] 50]) ?_ ?_
 ·refine j5 (mv u ?_)
  obtain⟨ae,J,O⟩:=ob H
  refine lk a5x (E2 F x.enter0 q (by decide :i7 (-1000000000)) (by decide :i7 1000000000) J) ?_
  rintro af ag ⟨R,rfl,d⟩
  have i:=(x.c0 d).t1
  refine lv (A4 u) (mv u (bt O (fun a k=>?_) (fun a k=>?_)))
  ·refine lu a (lu a (lu a (lv (J6 u a u) (mv u (lu u (lu u (lv (J6 u u u) (i8 ?_))))))))
   cases oi k
   exact qd ⟨R,u,i,d.le⟩
  refine lg a (i5 u) ?_
  obtain⟨ah,S,T⟩:=ob k
  refine A3 (wg u u a) u (A2 (vs:=[V6 q1,V6 (-1000000000),V6 1000000000]) a5x u) (E2 F i.enter0 s (by decide :i7 (-1000000000)) (by decide :i7 1000000000) S) ?_
  rintro ai aj ⟨y,rfl,l⟩
  refine⟨_,u,?_⟩
  have A:=(i.c0 l).t1
  refine lg a (A4 u) (lv (l9 u a u) (mv u (bt T (fun b m=>?_) (fun b m=>?_))))
  ·refine lu b (lu b (lv (J6 u b u) (i8 ?_)))
   cases oi m
   exact qd ⟨y,u,A,(d.le.trans l.le)⟩
  refine lg b (i5 u) (lg b (A9 u u) (lv (l9 u b u) (i8 ?_)))
  cases oi m
  exact qd ⟨y,u,A,(d.le.trans l.le)⟩
 rintro _ ak ⟨am,rfl,B,an⟩
 refine l5 (D5 I u (fun U o=>?_) (fun U o=>?_))
 ·refine sr ?_
  cases o
 refine j3 (qr (mv u (mv u ?_)))
 obtain⟨f,V,W⟩:=ob o
 refine lk c5J (b3L F B.enter0 q s V) ?_
 rintro ao ap ⟨X,rfl,Y,aa,ab⟩
 have ac:=(B.c0 Y).t1
 refine lv (y3 u u) (lv (y3 u u) (lw [V6 f.1.Up,V6 f.1.Down] V4 ac fun aq C=>(av u (nq (j9 ?_)))))
 cases oi W
 exact S7 (vs:=[_,_]) results75 ⟨⟨_,_,u,B2 V4 (cs:=[V6 f.1.Up,V6 f.1.Down]) (fun j c e=>by rw [Nat.zero_add,C.mem_obj m0];exact e) (.inl ⟨u,u,u⟩)⟩,u,trivial⟩ ⟨X,u,C.s,aa,ab⟩

theorem a4T {q0:a6l}{q1:Int}{r:Int}(hS:SH w K [] w K [])(x:i7 q0.Up)(y:i7 q0.Down)(A:i7 q1)(hm:X9 F q0 q1=some r):
  Calls prog 24 #[.agg #[V6 q0.Up,V6 q0.Down],V6 q1] w (R_i w K r):=by
 rw [X9] at hm
 refine ci func24 u ntmps24 (sr (bx u hS fun c w5 B=>?_))
 have d:SH _ _ _ _ _ [s7 c [V6 q0.Up,V6 q0.Down] 50]:=B
 refine lv (N2 u) (ns (o4 ?_))
 obtain⟨C,D,G⟩:=ob hm
 refine l4 (IV w K [] K [(1,V6 q1),(2,pt c),(13,.bool C)] [s7 c [V6 q0.Up,V6 q0.Down] 50]) ?_ ?_
 ·refine j5 (lv (j6 (ds:=[V6 q0.Up,V6 q0.Down]) V4 u m0 d u u) ?_)
  obtain⟨ab,H,I⟩:=ob D
  refine lk c6C (a9C F d.enter0 x y H) ?_
  rintro ac ad ⟨J,rfl,f⟩
  have i:=(d.c0 f).t1
  refine lv (A4 u) (mv u (bt I (fun a k=>?_) (fun a k=>?_)))
  ·refine lu a (lu a (lu a (lv (J6 u a u) (i8 ?_))))
   cases oi k
   exact qd ⟨J,u,i,f.le⟩
  refine lg a (i5 u) ?_
  obtain⟨ae,O,R⟩:=ob k
  refine A3 (wg u u a) u (A2 (vs:=[V6 q1,V6 1,V6 1000]) a5x u) (E2 F i.enter0 A (by decide :i7 1) (by decide :i7 1000) O) ?_
  rintro af ag ⟨S,rfl,q⟩
  refine⟨_,u,?_⟩
  have T:=(i.c0 q).t1
  refine lg a (A4 u) (lv (l9 u a u) (i8 ?_))
  cases oi R
  exact qd ⟨S,u,T,(f.le.trans q.le)⟩
 rintro _ ah ⟨l,rfl,b,ai⟩
 refine l5 (D5 G u (fun U m=>?_) (fun U m=>?_))
 ·refine sr (lv (N2 u) (nq (rr ?_)))
  cases oi m
  exact ey results24 ⟨l,u,b.s,I5⟩
 refine j3 (qr (fl b5J u E6 m0 b u (mv u (lv (U4 u u) (av u (O7 (mv u (lv (a3B u u) (nq ?_)))))))))
 refine D5 m u (fun V o=>?_) (fun V o=>?_)
 ·refine sr (mv u (fl b1k u E6 m0 b u ?_))
  obtain⟨aj,s,W⟩:=ob o
  refine lv (a4D u u s) (av u (nq (rr ?_)))
  cases oi W
  exact ey results24 ⟨l,u,b.s,(a32 s)⟩
 refine j3 (qr (mv u (lv (a8I u) (fl b1k u E6 m0 b u (lv (y7 u u) (lv (I6 u u) (fl b1k u E6 m0 b u ?_)))))))
 obtain⟨ak,X,Y⟩:=ob o
 refine lv (a4D u u X) (lv (a8I u) (av u (nq (j9 ?_))))
 cases oi Y
 exact ey results24 ⟨l,u,b.s,(u0 _)⟩

theorem b5V {q0:List Int}{r:Bool}(hS:SH w K [] w K [])(f:b7 D6 K A a b q0)(hm:a5k F q0=some r):
  Calls prog 242 #[V3 A a b] w (R_b w K r):=by
 rw [a5k] at hm
 refine ci func242 u ntmps242 (sr (lv (O6 u) (O7 (mv u (lv (q9 underlying46 u f) (lv (r_m u) (nq ?_)))))))
 obtain⟨J,O,m⟩:=ob hm
 refine l4 (IE J w K [] K [(0,V3 A a b)] []) ?_ ?_
 ·refine j7 ?_
  obtain⟨aB,R,D⟩:=ob O
  refine qf (fun (q:Nat) (G:Unit)=>IV w K [] K [(0,V3 A a b),(5,V3 A a b),(6,V6 (q0.length:Int)),(7,V6 ((q:Nat):Int))] []) R ⟨K,u,hS,kr⟩ ?_ ?_
  ·rintro q G _ S aC hi23 T U ⟨s,rfl,i,k⟩
   refine sr (lv (u7 u u) (ns (C9 u (b8 (by omega)) (j3 (l5 (o4 (j7 (sr (mv u ?_)))))))))
   obtain⟨V,W,X⟩:=ob T
   refine li underlying46 E6 (f.mono k) W fun Y aa aD ab ac=>?_
   obtain⟨rfl,ad⟩:=ab
   have ae:F1 _ Y aa [V6 V]:=ac
   refine lv (y9 E6 u i (ae 0 _ u)) (av u (av u (ns ?_)))
   obtain⟨af,ag,ah⟩:=ob X
   refine l4 (IV w K [] s [(0,V3 A a b),(5,V3 A a b),(6,V6 (q0.length:Int)),(7,V6 ((q:Nat):Int)),(27,.bool af)] []) ?_ ?_
   ·refine j5 (mv u ?_)
    obtain⟨aE,ai,aj⟩:=ob ag
    refine lk a5x (E2 F i.enter0 ad I5 (by decide :i7 999999999) ai) ?_
    rintro aF aG ⟨x,rfl,l⟩
    have o:=(i.c0 l).t0
    refine lv (A4 u) (mv u (bt aj (fun c y=>?_) (fun c y=>?_)))
    ·refine lu c (lu c (lu c (A8 (uu u u) u (A8 (uu u u) u (A8 (uu u u) u (A8 (uu u u) u (A8 (uu u u) u (A8 (uu u u) u (A8 (uu u u) u ?_)))))))))
     refine lu c (lv (J6 u c u) (i8 ?_))
     cases oi y
     exact qd ⟨x,u,o,l.le⟩
    refine lg c (i5 u) (lg c (E7 u u) (lg c (i5 u) (bt y (fun d B=>?_) (fun d B=>?_))))
    ·refine lg d (i5 u) (lg d (i5 u) (lg d (I6 u u) ?_))
     obtain⟨ak,al,am⟩:=ob B
     refine N1 (t:=D6) (wg u u d) u underlying46 E6 u u (f.mono (k.trans l.le)) al fun an ao aH ap aq=>?_
     obtain⟨rfl,aI⟩:=ap
     have ar:F1 _ an ao [V6 ak]:=aq
     refine lg d (y9 E6 u o (ar 0 _ u)) (lg d (i5 u) (lg d (a3B u u) (lg c (n9 u d u) (lv (l9 u c u) (i8 ?_)))))
     cases oi am
     exact qd ⟨x,u,o,l.le⟩
    iterate 7 refine lu d ?_
    refine lg c (L8 u d u) (lv (l9 u c u) (i8 ?_))
    cases oi B
    exact qd ⟨x,u,o,l.le⟩
   rintro _ aJ ⟨H,rfl,I,au⟩
   refine l5 (D5 ah u (fun aw C=>?_) (fun aw C=>?_))
   ·refine sr (lv (O6 u) (nq (j9 (i9 (c9 (c9 ?_))))))
    cases oi C
    cases U _ u
    refine i9 (c9 ?_)
    cases oi D
    refine c9 ?_
    cases oi m
    exact ey results242 ⟨H,u,I⟩
   refine j3 (x8 (qg (lv (B6 u u (C6 hi23 (b7.max f))) (mv u (i8 ?_)))))
   cases oi C
   exact qd ⟨_,u,H,u,I,(k.trans au)⟩
  rintro G _ S ax ⟨s,rfl,i,k⟩
  subst ax
  refine sr (lv (u7 u u) (ns (C8 u (c6 (by omega)) (y4 (g8 (g8 (l6 ?_)))))))
  cases oi D
  exact qd ⟨_,s,u,u,i,k⟩
 rintro _ aK ⟨s8,K9,rfl,rfl,az,aA⟩
 have m:=E9 m
 refine qr (mv u (lv (q9 underlying46 u (f.mono aA)) (lv (V2 u u) (av u (nq (j9 ?_))))))
 cases oi m
 exact ey results242 ⟨K9,u,az⟩

theorem b2A {q0:List (List Int)}{r:Bool}(hS:SH w K [] w K [])(d:b7 (X2 D6) K A a b q0)(hm:a4l F q0=some r):
  Calls prog 232 #[V3 A a b] w (R_b w K r):=by
 rw [a4l] at hm
 refine ci func232 u ntmps232 (sr (lv (O6 u) (O7 (mv u (lv (q9 (t:=(X2 D6)) underlying195 u d) (lv (r_m u) (nq ?_)))))))
 obtain⟨B,C,f⟩:=ob hm
 refine l4 (IE B w K [] K [(0,V3 A a b)] []) ?_ ?_
 ·refine j7 ?_
  obtain⟨ai,D,l⟩:=ob C
  refine qf (fun (m:Nat) (o:Unit)=>IV w K [] K [(0,V3 A a b),(5,V3 A a b),(6,V6 (q0.length:Int)),(7,V6 ((m:Nat):Int))] []) D ⟨K,u,hS,kr⟩ ?_ ?_
  ·rintro m o _ G aj hi23 H I ⟨q,rfl,c,i⟩
   refine sr (lv (u7 u u) (ns (C9 u (b8 (by omega)) (j3 (l5 (o4 (j7 (sr ?_))))))))
   obtain⟨ak,J,O⟩:=ob H
   refine li underlying195 a1g (d.mono i) J fun R S al T U=>?_
   obtain⟨V,W,X,rfl,Y⟩:=T
   have aa:F1 _ R S [V3 V W X]:=U
   refine lv (y9 a1g u c (aa 0 _ u)) (av u (nr (mv u ?_)))
   obtain⟨am,ab,ac⟩:=ob O
   refine lk c6u (b5V F c.enter0 Y ab) ?_
   rintro an ao ⟨s,rfl,x⟩
   have y:=(c.c0 x).t0
   refine lv (A4 u) (nq (D5 ac u (fun ad k=>?_) (fun ad k=>?_)))
   ·refine sr (lv (O6 u) (nq (j9 (i9 (c9 (c9 ?_))))))
    cases oi k
    cases I _ u
    refine i9 (c9 ?_)
    cases oi l
    refine c9 ?_
    cases oi f
    exact ey results232 ⟨s,u,y⟩
   refine j3 (x8 (qg (lv (B6 u u (C6 hi23 (b7.max d))) (mv u (i8 ?_)))))
   cases oi k
   exact qd ⟨_,u,s,u,y,(i.trans x.le)⟩
  rintro o _ G ae ⟨q,rfl,c,i⟩
  subst ae
  refine sr (lv (u7 u u) (ns (C8 u (c6 (by omega)) (y4 (g8 (g8 (l6 ?_)))))))
  cases oi l
  exact qd ⟨_,q,u,u,c,i⟩
 rintro _ ap ⟨s8,K9,rfl,rfl,ag,ah⟩
 have f:=E9 f
 refine qr (mv u (lv (q9 (t:=(X2 D6)) underlying195 u (d.mono ah)) (lv (V2 u u) (av u (nq (j9 ?_))))))
 cases oi f
 exact ey results232 ⟨K9,u,ag⟩

theorem b1y {q0:List (List Int)}{r:Bool}(hS:SH w K [] w K [])(f:b7 (X2 D6) K A a b q0)(hm:a3W F q0=some r):
  Calls prog 204 #[V3 A a b] w (R_b w K r):=by
 rw [a3W] at hm
 refine ci func204 u ntmps204 (sr (lv (O6 u) (nr (mv u (lv (q9 (t:=(X2 D6)) underlying195 u f) (lv (E7 u u) (mv u (bt hm (fun c d=>?_) (fun c d=>?_)))))))))
 ·refine lg c (i5 u) ?_
  obtain⟨q,i,k⟩:=ob d
  refine A3 (wg u u c) u (A2 (vs:=[V3 A a b]) c6q u) (b2A F hS.enter0 f i) ?_
  rintro s x ⟨l,rfl,m⟩
  refine⟨_,u,?_⟩
  have o:=(hS.c0 m).t0
  refine lv (n9 u c u) (av u (nq (j9 ?_)))
  cases oi k
  exact ey results204 ⟨l,u,o⟩
 refine lu c (lu c (lv (L8 u c u) (av u (nq (j9 ?_)))))
 cases oi d
 exact ey results204 ⟨K,u,hS⟩

theorem a7J {q0:List r4}{q1:r4}{r:r4}(hS:SH w K [] w K [])(m:b7 D9 K A a b q0)(ak:q1.length≤maxLen)(hm:a1o F q0 q1=some r):
  Calls prog 176 #[V3 A a b,sv q1] w fun e w'=>∃K',e= .returned (sv r)∧SH w K [] w' K' []∧r.length≤maxLen:=by
 rw [a1o] at hm
 refine ci func176 u ntmps176 (sr (lv (r_s u) (nr (lv (r_s u) (O7 (lv (N2 u) (nq ?_)))))))
 obtain⟨o,D,G⟩:=ob hm
 refine l4 (IW w K [] K [(5,sv o)] [] (o.length≤maxLen)) ?_ ?_
 ·refine j7 ?_
  obtain⟨al,H,I⟩:=ob D
  refine qw (fun (c:r4×Int)=>IW w K [] K [(0,V3 A a b),(1,sv q1),(5,sv c.1),(6,V6 c.2)] [] (c.1.length≤maxLen∧i7 c.2)) H ⟨K,u,hS,kr,(by decide :([]:r4).length≤maxLen),I5⟩ ?_
  rintro c _ am an J O ⟨d,rfl,i,f,q,ao⟩
  refine o4 (sr (mv u (mv u (lv (q9 underlying23 u (m.mono f)) (lv (u7 u u) (nq (D5 J u (fun R k=>?_) (fun R k=>?_))))))))
  ·refine j3 (qs (j7 (o4 (sr (mv u (lv (E7 u u) (nq ?_)))))))
   obtain⟨s,S,T⟩:=ob k
   refine l4 (IW w K [] d [(0,V3 A a b),(1,sv q1),(5,sv s),(6,V6 c.2)] [] (s.length≤maxLen)) ?_ ?_
   ·refine D5 S u (fun U l=>?_) (fun U l=>?_)
    ·refine j5 (mv u (mv u ?_))
     obtain⟨ap,x,V⟩:=ob l
     refine lv (b3c u u x) (av u (i8 ?_))
     cases oi V
     exact qd ⟨d,u,i,kr,(b5P x)⟩
    refine j3 ?_
    cases oi l
    exact qd ⟨d,u,i,kr,q⟩
   rintro _ aq ⟨W,rfl,y,B,ar⟩
   refine l5 (j5 (mv u (mv u (mv u ?_))))
   obtain⟨X,Y,aa⟩:=ob T
   refine li underlying23 G7 (m.mono (f.trans B)) Y fun ab ac au ad ae=>?_
   obtain⟨rfl,aw⟩:=ad
   have af:F1 _ ab ac [sv X]:=ae
   refine lv (y9 G7 u y (af 0 _ u)) ?_
   obtain⟨ax,C,ag⟩:=ob aa
   refine lv (b3c u u C) (av u (nb (l5 (j5 (mv u (lv (y7 u u) (av u (i8 ?_))))))))
   cases oi ag
   exact qd ⟨_,u,W,u,y,(f.trans B),(b5P C),(u0 _)⟩
  refine y4 (g8 (g8 ?_))
  cases oi k
  cases O _ u
  refine l6 ?_
  cases oi I
  exact qd ⟨d,u,i,f,q⟩
 rintro _ ay ⟨K9,rfl,ai,az,aj⟩
 refine qr (mv u (av u (nq (j9 ?_))))
 cases oi G
 exact ey results176 ⟨K9,u,ai,aj⟩
end Go.Proofs.YtnloenhmkdpgeaaGreatDoor
