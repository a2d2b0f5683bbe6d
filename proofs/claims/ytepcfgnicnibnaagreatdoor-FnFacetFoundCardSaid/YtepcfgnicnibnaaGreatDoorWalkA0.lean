/-
 Walks of the functions. Printed by gen.py.
-/
import Derived.Test.YtepcfgnicnibnaaGreatDoorFacts
set_option linter.unusedVariables false
set_option linter.unusedSectionVars false
set_option maxRecDepth 100000
namespace Go.Proofs.YtepcfgnicnibnaaGreatDoor
set_option maxHeartbeats 4000000
open Go Go.Fk Go.RowKit Tryz
variable (F:Nat){w:World}{K:F0}{Z:List Nat}{g1 g2 g3:Nat}{A B C D G H I J O R S T:Option Addr}{a b c d f i k l m n o p q s v x y aa ab ac ad ae af ag:Nat}
variable [dr:Dr]

theorem C3 {q0:Int}{q1:Int}{q2:Int}{r:Bool}(hS:SH w K [] w K [])(c:i7 q0)(d:i7 q1)(f:i7 q2)(hm:y9 F q0 q1 q2=some r):
  Calls prog 44 #[V6 q0,V6 q1,V6 q2] w (R_b w K r):=by
 rw [y9] at hm
 refine ci func44 u ntmps44 (sr (lv (P2 u) (nr (mv u (mv u (lv (a3S u u) (mv u (bt hm (fun a b=>?_) (fun a b=>?_)))))))))
 ·refine lg a (i5 u) (lg a (i5 u) (lg a (W5 u u) (lv (o0 u a u) (av u (nq (l3 ?_))))))
  cases oi b
  exact ey results44 ⟨K,u,hS⟩
 refine lu a (lu a (lu a (lv (J6 u a u) (av u (nq (l3 ?_))))))
 cases oi b
 exact ey results44 ⟨K,u,hS⟩

theorem a2z {q0:UInt8}{r:Bool}(hS:SH w K [] w K [])(hm:R5 F q0=some r):
  Calls prog 134 #[iv8 q0] w (R_b w K r):=by
 rw [R5] at hm
 refine ci func134 u ntmps134 (sr (lv (P2 u) (nr (mv u (lv (a71 (b:=(97:UInt8)) u u) (mv u (bt hm (fun c i=>?_) (fun c i=>?_))))))))
 ·refine lg c (i5 u) (lg c (a73 (b:=(122:UInt8)) u u) (lv (o0 u c u) (mv u (bt i (fun a k=>?_) (fun a k=>?_)))))
  ·refine lu a (lu a (lu a (A2 (uu u u) u (A2 (uu u u) u (lu a (lv (L8 u a u) (av u (nq (l3 ?_)))))))))
   cases oi k
   exact ey results134 ⟨K,u,hS⟩
  refine lg a (i5 u) (lg a (a71 (b:=(48:UInt8)) u u) (lg a (i5 u) (bt k (fun d l=>?_) (fun d l=>?_))))
  ·refine lg d (i5 u) (lg d (a73 (b:=(57:UInt8)) u u) (lg a (o0 u d u) (lv (o4 u a u) (av u (nq (l3 ?_))))))
   cases oi l
   exact ey results134 ⟨K,u,hS⟩
  refine lu d (lu d (lg a (J6 u d u) (lv (o4 u a u) (av u (nq (l3 ?_))))))
  cases oi l
  exact ey results134 ⟨K,u,hS⟩
 refine lu c (lu c (lv (J6 u c u) (mv u (lg u (i5 u) (lg u (a71 (b:=(48:UInt8)) u u) (lg u (i5 u) (bt i (fun f m=>?_) (fun f m=>?_))))))))
 ·refine lg f (i5 u) (lg f (a73 (b:=(57:UInt8)) u u) (lg u (o0 u f u) (lv (o4 u u u) (av u (nq (l3 ?_))))))
  cases oi m
  exact ey results134 ⟨K,u,hS⟩
 refine lu f (lu f (lg u (J6 u f u) (lv (o4 u u u) (av u (nq (l3 ?_))))))
 cases oi m
 exact ey results134 ⟨K,u,hS⟩

theorem I1 {q0:q9}{r:Bool}(hS:SH w K [] w K [])(f:q0.length≤maxLen)(hm:G4 F q0=some r):
  Calls prog 72 #[sv q0] w (R_b w K r):=by
 rw [G4] at hm
 refine ci func72 u ntmps72 (sr (lv (P2 u) (P6 (mv u (lv (I2 underlying9 u) (lv (r_m u) (nq ?_)))))))
 obtain⟨y,A,a⟩:=ob hm
 refine l6 (IE y w K [] K [(0,sv q0)] []) ?_ ?_
 ·refine j7 ?_
  obtain⟨Y,B,i⟩:=ob A
  refine qf (fun (k:Nat) (l:Unit)=>IV w K [] K [(0,sv q0),(5,V6 (q0.length:Int)),(6,V6 ((k:Nat):Int))] []) B ⟨K,u,hS,kr⟩ ?_ ?_
  ·rintro k l _ C aa hi21 D G ⟨m,rfl,b,c⟩
   refine sr (lv (s7 u u) (ns (C2 u (b8 (by omega)) (j5 (l4 (p9 (j7 (sr (mv u (av u (nr (mv u ?_))))))))))))
   refine mv u ?_
   obtain⟨ab,H,I⟩:=ob D
   refine lv (L9 underlying9 u u H) ?_
   obtain⟨ac,J,O⟩:=ob I
   refine lk b87 (a2z F b.enter0 J) ?_
   rintro ad ae ⟨o,rfl,q⟩
   have s:=(b.c0 q).t0
   refine lv (A4 u) (nq (D4 O u (fun R d=>?_) (fun R d=>?_)))
   ·refine sr (lv (P2 u) (nq (l3 (j6 (g8 (g8 ?_))))))
    cases oi d
    cases G _ u
    refine j6 (g8 ?_)
    cases oi i
    refine g8 ?_
    cases oi a
    exact ey results72 ⟨o,u,s⟩
   refine j5 (x9 (qg (lv (A3 u u (B5 hi21 f)) (mv u (i8 ?_)))))
   cases oi d
   exact qd ⟨_,u,o,u,s,(c.trans q.le)⟩
  rintro l _ C S ⟨m,rfl,b,c⟩
  subst S
  refine sr (lv (s7 u u) (ns (C1 u (c6 (by omega)) (w8 (g6 (g6 (l5 ?_)))))))
  cases oi i
  exact qd ⟨_,m,u,u,b,c⟩
 rintro _ w9 ⟨s5,K6,rfl,rfl,x,ai⟩
 have a:=F6 a
 refine qr (mv u (lv (I2 underlying9 u) ?_))
 obtain⟨aj,T,U⟩:=ob a
 refine lk a3H (C3 F x.enter0 (a5R f) (by decide :i7 1) (by decide :i7 12) T) ?_
 rintro ak al ⟨V,rfl,W⟩
 have X:=(x.c0 W).t0
 refine av u (nq (l3 ?_))
 cases oi U
 exact ey results72 ⟨V,u,X⟩

theorem a8C {q0:List q9}{r:Bool}(hS:SH w K [] w K [])(l:b7 D8 K A a b q0)(hm:X7 F q0=some r):
  Calls prog 110 #[V3 A a b] w (R_b w K r):=by
 rw [X7] at hm
 refine ci func110 u ntmps110 (sr (lv (P2 u) (P6 (mv u (lv (q7 underlying23 u l) (lv (r_m u) (nq ?_)))))))
 obtain⟨J,O,m⟩:=ob hm
 refine l6 (IE J w K [] K [] []) ?_ ?_
 ·refine j7 ?_
  obtain⟨aA,R,D⟩:=ob O
  refine qf (fun (q:Nat) (G:Unit)=>IV w K [] K [(0,V3 A a b),(5,V3 A a b),(6,V6 (q0.length:Int)),(7,V6 ((q:Nat):Int))] []) R ⟨K,u,hS,kr⟩ ?_ ?_
  ·rintro q G _ S aB hi23 T U ⟨s,rfl,f,i⟩
   refine sr (lv (s7 u u) (ns (C2 u (b8 (by omega)) (j5 (l4 (p9 (j7 (sr (mv u ?_)))))))))
   obtain⟨V,W,X⟩:=ob T
   refine li underlying23 H3 (l.mono i) W fun Y aa aC ab ac=>?_
   obtain⟨rfl,ad⟩:=ab
   have ae:E9 _ Y aa [sv V]:=ac
   refine lv (y7 H3 u f (ae 0 _ u)) (av u (av u (ns ?_)))
   obtain⟨af,ag,ah⟩:=ob X
   refine l6 (IV w K [] s [(0,V3 A a b),(5,V3 A a b),(6,V6 (q0.length:Int)),(7,V6 ((q:Nat):Int)),(27,.bool af)] []) ?_ ?_
   ·refine j3 (mv u ?_)
    obtain⟨aD,ai,aj⟩:=ob ag
    refine lk a9w (I1 F f.enter0 ad ai) ?_
    rintro aE aF ⟨x,rfl,k⟩
    have o:=(f.c0 k).t0
    refine lv (A4 u) (mv u (bt aj (fun c y=>?_) (fun c y=>?_)))
    ·refine lu c (lu c (lu c (A2 (uu u u) u (A2 (uu u u) u (A2 (uu u u) u (A2 (uu u u) u (A2 (uu u u) u (A2 (uu u u) u (A2 (uu u u) u ?_)))))))))
     refine lu c (lv (L8 u c u) (i8 ?_))
     cases oi y
     exact qd ⟨x,u,o,k.le⟩
    refine lg c (i5 u) (lg c (F9 u u) (lg c (i5 u) (bt y (fun d B=>?_) (fun d B=>?_))))
    ·refine lg d (i5 u) (lg d (i5 u) (lg d (H2 u u) ?_))
     obtain⟨ak,al,am⟩:=ob B
     refine I3 (t:=D8) (wg u u d) u underlying23 H3 u u (l.mono (i.trans k.le)) al fun an ao aG ap aq=>?_
     obtain⟨rfl,aH⟩:=ap
     have ar:E9 _ an ao [sv ak]:=aq
     refine lg d (y7 H3 u o (ar 0 _ u)) (lg d (i5 u) (lg d (b5V u u) (lg c (o0 u d u) (lv (o4 u c u) (i8 ?_)))))
     cases oi am
     exact qd ⟨x,u,o,k.le⟩
    iterate 7 refine lu d ?_
    refine lg c (J6 u d u) (lv (o4 u c u) (i8 ?_))
    cases oi B
    exact qd ⟨x,u,o,k.le⟩
   rintro _ aI ⟨H,rfl,I,au⟩
   refine l4 (D4 ah u (fun aw C=>?_) (fun aw C=>?_))
   ·refine sr (lv (P2 u) (nq (l3 (j6 (g8 (g8 ?_))))))
    cases oi C
    cases U _ u
    refine j6 (g8 ?_)
    cases oi D
    refine g8 ?_
    cases oi m
    exact ey results110 ⟨H,u,I⟩
   refine j5 (x9 (qg (lv (A3 u u (B5 hi23 (b7.max l))) (mv u (i8 ?_)))))
   cases oi C
   exact qd ⟨_,u,H,u,I,(i.trans au)⟩
  rintro G _ S ax ⟨s,rfl,f,i⟩
  subst ax
  refine sr (lv (s7 u u) (ns (C1 u (c6 (by omega)) (w8 (g6 (g6 (l5 ?_)))))))
  cases oi D
  exact H9 ⟨_,s,u,u,f,i⟩ trivial
 rintro _ aJ ⟨s8,K9,rfl,rfl,az,aL⟩
 have m:=F6 m
 refine qr (lv (r_t u) (nq (l3 ?_)))
 cases oi m
 exact ey results110 ⟨K9,u,az⟩

theorem a6e {q0:q9}{q1:q9}{r:Bool}(hS:SH w K [] w K [])(f:q0.length≤maxLen)(i:q1.length≤maxLen)(hm:U0 F q0 q1=some r):
  Calls prog 250 #[sv q0,sv q1] w (R_b w K r):=by
 rw [U0] at hm
 refine ci func250 u ntmps250 (sr (lv (P2 u) (nr (mv u (lv (I2 underlying9 u) (mv u (lv (I2 underlying9 u) (lv (a3S u u) (mv u ?_)))))))))
 refine bt hm (fun a b=>?_) (fun a b=>?_)
 ·refine lg a (i5 u) (lg a (i5 u) (lg a (I2 underlying9 u) (lg a (i5 u) (lg a (I2 underlying9 u) (lg a (H2 u u) ?_)))))
  obtain⟨k,c,d⟩:=ob b
  refine lg a (a0r underlying9 u u c) (lg a (i5 u) (lg a (M3 u u) (lv (o0 u a u) (av u (nq (l3 ?_))))))
  cases oi d
  exact ey results250 ⟨K,u,hS⟩
 iterate 9 refine lu a ?_
 refine lv (J6 u a u) (av u (nq (l3 ?_)))
 cases oi b
 exact ey results250 ⟨K,u,hS⟩

theorem a7X {q0:q9}{q1:q9}{r:Bool}(hS:SH w K [] w K [])(a:q0.length≤maxLen)(b:q1.length≤maxLen)(hm:V1 F q0 q1=some r):
  Calls prog 182 #[sv q0,sv q1] w (R_b w K r):=by
 rw [V1] at hm
 refine ci func182 u ntmps182 (sr (lv (P2 u) (nr (mv u (mv u ?_)))))
 obtain⟨l,c,d⟩:=ob hm
 refine lk c6E (a6e F hS.enter0 a b c) ?_
 rintro m o ⟨f,rfl,i⟩
 have k:=(hS.c0 i).t0
 refine av u (nq (l3 ?_))
 cases oi d
 exact ey results182 ⟨f,u,k⟩

theorem a3N {q0:q9}{r:q9}(hS:SH w K [] w K [])(D:q0.length≤maxLen)(hm:W8 F q0=some r):
  Calls prog 111 #[sv q0] w fun e w'=>∃K',e= .returned (sv r)∧SH w K [] w' K' []∧r.length≤maxLen:=by
 rw [W8] at hm
 refine ci func111 u ntmps111 (sr (lv (r_s u) (P6 (mv u ?_))))
 obtain⟨r2,ab,h4⟩:=ob hm
 refine lk a9w (I1 F hS.enter0 D ab) ?_
 rintro e8 w6 ⟨i,rfl,ad⟩
 have G:=(hS.c0 ad).t0
 refine lv (A4 u) (nq (D4 h4 u (fun ae l=>?_) (fun ae l=>?_)))
 ·refine sr (lv (r_s u) (nq (rr ?_)))
  cases oi l
  exact ey results111 ⟨i,u,G,(by decide :([]:q9).length≤maxLen)⟩
 refine j5 (qs (sr (lv (r_t u) (nq ?_))))
 obtain⟨H,af,ag⟩:=ob l
 refine l6 (IW w K [] i [(0,sv H)] [] (H.length≤maxLen)) ?_ ?_
 ·refine j7 ?_
  obtain⟨aZ,ah,ai⟩:=ob af
  refine qw (fun (k:q9×Bool)=>IW w K [] i [(0,sv k.1),(3,.bool k.2)] [] (k.1.length≤maxLen)) ah ⟨i,u,G,kr,D⟩ ?_
  rintro k _ ba bb aj ak ⟨al,rfl,I,J,O⟩
  refine p9 (sr (mv u (nq (D4 aj u (fun am m=>?_) (fun am m=>?_)))))
  ·refine j5 (l4 (j7 (sr (lv (P2 u) (nr (bw [[105,110,103],[101,100],[101,115],[108,121],[115]] underlying23 H3 I fun R bc o an q ao=>(lv (q7 underlying23 u q) (lv (r_m u) (nq ?_)))))))))
   obtain⟨s,ap,aq⟩:=ob m
   refine l6 (IW w K [] o [(0,sv s.1),(3,.bool s.2)] [] (s.1.length≤maxLen)) ?_ ?_
   ·refine j7 ?_
    obtain⟨bd,ar,S⟩:=ob ap
    have au:=ao.sb (sd sz)
    refine qf (fun (x:Nat) (b:q9×Bool)=>IW w K [] o [(0,sv b.1),(3,.bool b.2),(10,V3 R 5 5),(11,V6 (([([105,110,103]:q9),([101,100]:q9),([101,115]:q9),([108,121]:q9),([115]:q9)]:List q9).length:Int)),(12,V6 ((x:Nat):Int))] [] (b.1.length≤maxLen)) ar ⟨o,u,au,kr,O⟩ ?_ ?_
    ·rintro x b _ aw be hi60 ax ay ⟨y,rfl,c,d,f⟩
     refine sr (lv (s7 u u) (ns (C2 u (b8 (by omega)) (j5 (l4 (p9 (j7 (sr ?_))))))))
     obtain⟨T,az,aA⟩:=ob ax
     refine li underlying23 H3 (q.mono d) az fun aB aC bf aD aE=>?_
     obtain⟨rfl,aF⟩:=aD
     have aG:E9 _ aB aC [sv T]:=aE
     refine lv (y7 H3 u c (aG 0 _ u)) (av u (ns ?_))
     obtain⟨aH,aI,aJ⟩:=ob aA
     refine l6 (IV w K [] y [(0,sv b.1),(3,.bool b.2),(5,sv T),(10,V3 R 5 5),(11,V6 (([([105,110,103]:q9),([101,100]:q9),([101,115]:q9),([108,121]:q9),([115]:q9)]:List q9).length:Int)),(12,V6 ((x:Nat):Int)),(26,.bool aH)] []) ?_ ?_
     ·refine j3 (mv u (mv u ?_))
      obtain⟨bg,aK,aL⟩:=ob aI
      refine lk c6k (a7X F c.enter0 f aF aK) ?_
      rintro bh bi ⟨U,rfl,A⟩
      have V:=(c.c0 A).t0
      refine mv u (bt aL (fun a B=>?_) (fun a B=>?_))
      ·refine lg a (i5 u) (lg a (I2 underlying9 u) (lg a (i5 u) (lg a (I2 underlying9 u) (lg a (H2 u u) (lg a (a3S u u) (lv (o0 u a u) (i8 ?_)))))))
       cases oi B
       exact qd ⟨U,u,V,A.le⟩
      iterate 6 refine lu a ?_
      refine lv (J6 u a u) (i8 ?_)
      cases oi B
      exact qd ⟨U,u,V,A.le⟩
     rintro _ bj ⟨W,rfl,X,Y⟩
     refine l4 (D4 aJ u (fun aM C=>?_) (fun aM C=>?_))
     ·refine sr (mv u (mv u (lv (I2 underlying9 u) (mv u (lv (I2 underlying9 u) (lv (H2 u u) ?_))))))
      obtain⟨bk,aa,aN⟩:=ob C
      refine lv (b7h underlying9 u u aa) (av u (nr (lv (r_t u) (nq (w8 (b67 u (g6 (g6 ?_))))))))
      cases oi aN
      cases ay _ u
      refine l5 ?_
      cases oi S
      exact qd ⟨W,u,X,(d.trans Y),(a1c f aa)⟩
     refine j5 (x9 (qg (lv (A3 u u (B5 hi60 (b7.max q))) (mv u (i8 ?_)))))
     cases oi C
     exact qd ⟨_,u,W,u,X,(d.trans Y),f⟩
    rintro b _ aw aO ⟨y,rfl,c,d,f⟩
    subst aO
    refine sr (lv (s7 u u) (ns (C1 u (c6 (by omega)) (w8 (g6 (g6 (l5 ?_)))))))
    cases oi S
    exact qd ⟨y,u,c,d,f⟩
   rintro _ bl ⟨aP,rfl,aQ,aR,aS⟩
   refine x9 ?_
   cases oi aq
   exact qd ⟨_,u,aP,u,aQ,((J.trans an).trans aR),aS⟩
  refine w8 (g6 (g6 ?_))
  cases oi m
  cases ak _ u
  refine l5 ?_
  cases oi ai
  exact qd ⟨al,u,I,J,O⟩
 rintro _ bm ⟨aT,rfl,aU,bn,aV⟩
 refine qr (mv u (av u (nq (l3 ?_))))
 cases oi ag
 exact ey results111 ⟨aT,u,aU,aV⟩

theorem a6P {q0:List q9}{q1:q9}{r:Int}(hS:SH w K [] w K [])(d:b7 D8 K A a b q0)(Y:q1.length≤maxLen)(hm:Z2 F q0 q1=some r):
  Calls prog 183 #[V3 A a b,sv q1] w (R_i w K r):=by
 rw [Z2] at hm
 refine ci func183 u ntmps183 (sr (lv (N4 u) (P6 (mv u (lv (q7 underlying23 u d) (lv (r_m u) (nq ?_)))))))
 obtain⟨s,x,f⟩:=ob hm
 refine l6 (IE s w K [] K [] []) ?_ ?_
 ·refine j7 ?_
  obtain⟨aa,y,m⟩:=ob x
  refine qf (fun (o:Nat) (q:Unit)=>IV w K [] K [(0,V3 A a b),(1,sv q1),(7,V6 (q0.length:Int)),(8,V6 ((o:Nat):Int))] []) y ⟨K,u,hS,kr⟩ ?_ ?_
  ·rintro o q _ B ab hi24 C D ⟨i,rfl,c,k⟩
   refine sr (lv (s7 u u) (ns (C2 u (b8 (by omega)) (j5 (l4 (p9 (j7 (sr (mv u (av u (nr (mv u ?_))))))))))))
   refine mv u (mv u ?_)
   obtain⟨G,H,I⟩:=ob C
   refine li underlying23 H3 (d.mono k) H fun J O ac R S=>?_
   obtain⟨rfl,ad⟩:=R
   have T:E9 _ J O [sv G]:=S
   refine lv (y7 H3 u c (T 0 _ u)) (lv (M3 u u) (nq (D4 I u (fun U l=>?_) (fun U l=>?_))))
   ·refine sr (mv u (av u (nq (l3 (j6 (g8 (g8 ?_)))))))
    cases oi l
    cases D _ u
    refine j6 (g8 ?_)
    cases oi m
    refine g8 ?_
    cases oi f
    exact ey results183 ⟨i,u,c,(b2D hi24 (b7.max d))⟩
   refine j5 (x9 (qg (lv (A3 u u (B5 hi24 (b7.max d))) (mv u (i8 ?_)))))
   cases oi l
   exact qd ⟨_,u,i,u,c,k⟩
  rintro q _ B V ⟨i,rfl,c,k⟩
  subst V
  refine sr (lv (s7 u u) (ns (C1 u (c6 (by omega)) (w8 (g6 (g6 (l5 ?_)))))))
  cases oi m
  exact H9 ⟨_,i,u,u,c,k⟩ trivial
 rintro _ ae ⟨s9,W,rfl,rfl,X,ag⟩
 have f:=F6 f
 refine qr (lv (x8 (v:=V6 (-1)) u) (nq (l3 ?_)))
 cases oi f
 exact ey results183 ⟨W,u,X,(by decide :i7 (-1))⟩

theorem a0c {q0:List q9}{q1:q9}{r:Bool}(hS:SH w K [] w K [])(c:b7 D8 K A a b q0)(d:q1.length≤maxLen)(hm:I5 F q0 q1=some r):
  Calls prog 112 #[V3 A a b,sv q1] w (R_b w K r):=by
 rw [I5] at hm
 refine ci func112 u ntmps112 (sr (lv (P2 u) (nr (mv u (mv u ?_)))))
 obtain⟨o,f,i⟩:=ob hm
 refine lk c6l (a6P F hS.enter0 c d f) ?_
 rintro q s ⟨k,rfl,l,x⟩
 have m:=(hS.c0 l).t0
 refine lv (a3S u u) (av u (nq (l3 ?_)))
 cases oi i
 exact ey results112 ⟨k,u,m⟩

theorem a5p {q0:u5}{r:Bool}(hS:SH w K [] w K [])(ae:b7 D8 K A a b q0.Stops)(U:b7 L0 K B c d q0.Syns)(hm:a0u F q0=some r):
  Calls prog 52 #[.agg #[V3 A a b,V3 B c d]] w (R_b w K r):=by
 rw [a0u] at hm
 refine ci func52 u ntmps52 (sr (bx u hS fun f cu aO=>?_))
 have x:SH _ _ _ _ _ [u9 f [V3 A a b,V3 B c d] 26]:=aO
 refine lv (P2 u) (ns (p9 ?_))
 obtain⟨aP,aQ,aR⟩:=ob hm
 refine l6 (IV w K [] K [(1,pt f),(22,.bool aP)] [u9 f [V3 A a b,V3 B c d] 26]) ?_ ?_
 ·refine j3 (fl a3i u T1 m0 x u (lv (q7 underlying23 u ae) (lv (F9 u u) (mv u (bt aQ (fun i af=>?_) (fun i af=>?_))))))
  ·refine lu i (lu i (lu i (lu i (lv (L8 u i u) (mv u (lu u (lu u (lu u (lu u ?_)))))))))
   refine lv (L8 u u u) (i8 ?_)
   cases oi af
   exact qd ⟨K,u,x,kr⟩
  refine lg i (c9 a3i u) (lg i (u6 T1 u m0 x u) ?_)
  obtain⟨cv,aS,aT⟩:=ob af
  refine A0 (wg u u i) u (z7 (vs:=[V3 A a b]) c5M u) (a8C F x.enter0 ae aS) ?_
  rintro cw cx ⟨aE,rfl,V⟩
  refine⟨_,u,?_⟩
  have ag:=(x.c0 V).t1
  refine lg i (A4 u) (lv (o4 u i u) (mv u (bt aT (fun k ah=>?_) (fun k ah=>?_))))
  ·refine lu k (lu k (lu k (lu k (lv (L8 u k u) (i8 ?_)))))
   cases oi ah
   exact qd ⟨aE,u,ag,V.le⟩
  refine lg k (c9 a3j u) (lg k (u6 a9g u m0 ag u) (lg k (q7 underlying24 u (U.mono V.le)) (lg k (F9 u u) (lv (o4 u k u) (i8 ?_)))))
  cases oi ah
  exact qd ⟨aE,u,ag,V.le⟩
 rintro _ cy ⟨W,rfl,ai,X⟩
 refine l4 (D4 aR u (fun aU aj=>?_) (fun aU aj=>?_))
 ·refine sr (lv (P2 u) (nq (rr ?_)))
  cases oi aj
  exact ey results52 ⟨W,u,ai.s⟩
 refine j5 (qs (sr (fl a3j u a9g m0 ai u (lv (q7 underlying24 u (U.mono X)) (lv (r_m u) (nq ?_))))))
 obtain⟨aV,aW,y⟩:=ob aj
 refine l6 (IE aV w K [] W [] []) ?_ ?_
 ·refine j7 ?_
  obtain⟨cz,aX,ak⟩:=ob aW
  refine qf (fun (s:Nat) (aF:Unit)=>IV w K [] W [(1,pt f),(24,V3 B c d),(25,V6 (q0.Syns.length:Int)),(26,V6 ((s:Nat):Int))] [u9 f [V3 A a b,V3 B c d] 26]) aX ⟨W,u,ai,kr⟩ ?_ ?_
  ·rintro s aF _ aY cA hi53 aZ aG ⟨am,rfl,Y,C⟩
   refine sr (lv (s7 u u) (ns (C2 u (b8 (by omega)) (j5 (l4 (p9 (j7 (sr ?_))))))))
   obtain⟨D,ba,bb⟩:=ob aZ
   refine li underlying24 a3v (U.mono (X.trans C)) ba fun bc bd cB be bf=>?_
   obtain⟨G,H,I,rfl,J,an⟩:=be
   have bg:E9 _ bc bd [V3 G H I,sv D.To]:=bf
   refine lv (F5 a3v u Y bg u) (al a3v Y fun ao cC bh=>?_)
   have bi:SH _ _ _ _ _ [u9 ao [V3 none 0 0,sv []] 165,_]:=bh
   refine lw [V3 G H I,sv D.To] a3v bi fun cD aH=>(ns (p9 ?_))
   obtain⟨bj,bk,bl⟩:=ob bb
   refine l6 (IV w K [] am [(1,pt f),(4,pt ao),(24,V3 B c d),(25,V6 (q0.Syns.length:Int)),(26,V6 ((s:Nat):Int)),(48,.bool bj)] [u9 f [V3 A a b,V3 B c d] 26,u9 ao [V3 G H I,sv D.To] 165]) ?_ ?_
   ·refine E1 mixed (by kernel_rfl) aH (kv (c9 a0l u) (kh (z6 T1 u m0 u) (kv (q7 underlying23 u J) ?_)))
    obtain⟨cE,bm,bn⟩:=ob bk
    refine kc a3H (fun _ _ bo cF=>(C3 F) bo.enter0 J.rn (by decide :i7 1) (by decide :i7 3) bm) (kv (A4 u) (km u (bt bn (fun l ap=>?_) (fun l ap=>?_))))
    ·refine kn l (kn l (kn l (kn l (kv (L8 u l u) (km u ?_)))))
     iterate 6 refine qv u u u u ?_
     refine kv (L8 u u u) (B7 ?_)
     rintro cG ⟨bp,bq,br⟩
     cases oi ap
     exact qd ⟨bp,u,bq.f1,br⟩
    refine kg l (c9 a5M u) (kgh l (z6 H3 u m0 u) ?_)
    obtain⟨cH,bs,bu⟩:=ob ap
    refine kcg l a9w (fun _ _ bv cI=>(I1 F) bv.enter0 an bs) (kg l (A4 u) (kv (o4 u l u) (km u (bt bu (fun q aq=>?_) (fun q aq=>?_)))))
    ·iterate 6 refine kn q ?_
     refine kv (L8 u q u) (B7 ?_)
     rintro cJ ⟨bz,bA,bB⟩
     cases oi aq
     exact qd ⟨bz,u,bA.f1,bB⟩
    refine kg q (c9 a5M u) (kgh q (z6 H3 u m0 u) ?_)
    obtain⟨cK,aI,bC⟩:=ob aq
    refine kdg q c1q (fun _ _ bD cL=>(a3N F) bD.enter0 an aI) ?_
    obtain⟨_,_,_,⟨_,_,_,cM⟩,_⟩:=(a3N F) aH.enter0 an aI []
    refine kg q (c9 a5M u) (kgh q (z6 H3 u m0 u) (kg q (a1V u u) (kv (o4 u q u) (B7 ?_))))
    rintro cN ⟨bE,bF,bG⟩
    cases oi bC
    exact qd ⟨bE,u,bF.f1,bG⟩
   rintro _ cO ⟨aa,rfl,ar,O⟩
   refine l4 (D4 bl u (fun bH au=>?_) (fun bH au=>?_))
   ·refine sr (lv (P2 u) (nq (rr (j6 (g8 (g8 ?_))))))
    cases oi au
    cases aG _ u
    refine j6 (g8 ?_)
    cases oi ak
    refine g8 ?_
    cases oi y
    exact ey results52 ⟨aa,u,ar.s⟩
   refine j5 (qr (fl a0l u T1 m1 ar u (lv (q7 underlying23 u (J.mono O)) (lv (r_m u) (nq ?_)))))
   obtain⟨bI,bJ,ab⟩:=ob au
   refine l6 (IE bI w K [] aa [(1,pt f),(24,V3 B c d),(25,V6 (q0.Syns.length:Int)),(26,V6 ((s:Nat):Int))] [u9 f [V3 A a b,V3 B c d] 26]) ?_ ?_
   ·refine j7 ?_
    obtain⟨cP,bK,aJ⟩:=ob bJ
    have bL:=ar.sb (sk (sd sz))
    refine qf (fun (aw:Nat) (aK:Unit)=>IV w K [] aa [(1,pt f),(24,V3 B c d),(25,V6 (q0.Syns.length:Int)),(26,V6 ((s:Nat):Int)),(50,V3 G H I),(51,V6 (D.From.length:Int)),(52,V6 ((aw:Nat):Int))] [u9 f [V3 A a b,V3 B c d] 26]) bK ⟨aa,u,bL,kr⟩ ?_ ?_
    ·rintro aw aK _ bM cQ hi147 bN bO ⟨ax,rfl,R,S⟩
     refine sr (lv (s7 u u) (ns (C2 u (b8 (by omega)) (j5 (l4 (p9 (j7 (sr ?_))))))))
     obtain⟨ay,bP,bQ⟩:=ob bN
     refine li underlying23 H3 (J.mono (O.trans S)) bP fun bR bS cR bT bU=>?_
     obtain⟨rfl,az⟩:=bT
     have bV:E9 _ bR bS [sv ay]:=bU
     refine lv (y7 H3 u R (bV 0 _ u)) (av u (ns ?_))
     obtain⟨bW,bX,bY⟩:=ob bQ
     refine l6 (IV w K [] ax [(1,pt f),(24,V3 B c d),(25,V6 (q0.Syns.length:Int)),(26,V6 ((s:Nat):Int)),(50,V3 G H I),(51,V6 (D.From.length:Int)),(52,V6 ((aw:Nat):Int)),(70,.bool bW)] [u9 f [V3 A a b,V3 B c d] 26]) ?_ ?_
     ·refine j3 (mv u ?_)
      obtain⟨cS,bZ,ca⟩:=ob bX
      refine lk a9w (I1 F R.enter0 az bZ) ?_
      rintro cT cU ⟨cb,rfl,T⟩
      have aA:=(R.c0 T).t1
      refine lv (A4 u) (mv u (bt ca (fun m aB=>?_) (fun m aB=>?_)))
      ·refine lu m (lu m (lu m (lu m (lv (L8 u m u) (mv u (lu u (lu u (lu u (lu u ?_)))))))))
       refine lv (L8 u u u) (i8 ?_)
       cases oi aB
       exact qd ⟨cb,u,aA,T.le⟩
      refine lg m (i5 u) ?_
      obtain⟨cV,cc,cd⟩:=ob aB
      refine A0 (wg u u m) u (z7 (vs:=[sv ay]) c1q u) (a3N F aA.enter0 az cc) ?_
      rintro cW cX ⟨ce,rfl,ac,cY⟩
      refine⟨_,u,?_⟩
      have ad:=(aA.c0 ac).t1
      refine lg m (i5 u) (lg m (a1V u u) (lv (o4 u m u) (mv u (bt cd (fun o aC=>?_) (fun o aC=>?_)))))
      ·refine lu o (lu o (lu o (lu o (lv (L8 u o u) (i8 ?_)))))
       cases oi aC
       exact qd ⟨ce,u,ad,(T.le.trans ac.le)⟩
      refine lg o (c9 a3i u) (lg o (u6 T1 u m0 ad u) (lg o (i5 u) ?_))
      obtain⟨cZ,cf,cg⟩:=ob aC
      refine A0 (wg u u o) u (z7 (vs:=[V3 A a b,sv ay]) c1r u) (a0c F ad.enter0 (b7.mono (((((X.trans C).trans O).trans S).trans T.le).trans ac.le) ae) az cf) ?_
      rintro da db ⟨ch,rfl,aL⟩
      refine⟨_,u,?_⟩
      have cj:=(ad.c0 aL).t1
      refine lv (o4 u o u) (i8 ?_)
      cases oi cg
      exact qd ⟨ch,u,cj,((T.le.trans ac.le).trans aL.le)⟩
     rintro _ dc ⟨aM,rfl,aN,ck⟩
     refine l4 (D4 bY u (fun cl aD=>?_) (fun cl aD=>?_))
     ·refine sr (lv (P2 u) (nq (l3 (j6 (g8 (g8 ?_))))))
      cases oi aD
      cases bO _ u
      refine j6 (g8 ?_)
      cases oi aJ
      refine j6 (g8 (g8 ?_))
      cases oi ab
      cases aG _ u
      refine j6 (g8 ?_)
      cases oi ak
      refine g8 ?_
      cases oi y
      exact ey results52 ⟨aM,u,aN.s⟩
     refine j5 (x9 (qg (lv (A3 u u (B5 hi147 (b7.max (J.mono O)))) (mv u (i8 ?_)))))
     cases oi aD
     exact qd ⟨_,u,aM,u,aN,(S.trans ck)⟩
    rintro aK _ bM cm ⟨ax,rfl,R,S⟩
    subst cm
    refine sr (lv (s7 u u) (ns (C1 u (c6 (by omega)) (w8 (g6 (g6 (l5 ?_)))))))
    cases oi aJ
    exact qd ⟨_,ax,u,u,R,S⟩
   rintro _ dd ⟨de,cn,rfl,rfl,cp,cq⟩
   have ab:=F6 ab
   refine x9 (qg (lv (A3 u u (B5 hi53 (b7.max (U.mono X)))) (mv u (i8 ?_))))
   cases oi ab
   exact qd ⟨_,u,cn,u,cp,((C.trans O).trans cq)⟩
  rintro aF _ aY cr ⟨am,rfl,Y,C⟩
  subst cr
  refine sr (lv (s7 u u) (ns (C1 u (c6 (by omega)) (w8 (g6 (g6 (l5 ?_)))))))
  cases oi ak
  exact H9 ⟨_,am,u,u,Y.s,C⟩ trivial
 rintro _ df ⟨dg,cs,rfl,rfl,ct,dh⟩
 have y:=F6 y
 refine qr (lv (r_t u) (nq (l3 ?_)))
 cases oi y
 exact ey results52 ⟨cs,u,ct⟩

theorem a5s {q0:q9}{r:Bool}(hS:SH w K [] w K [])(y:q0.length≤maxLen)(hm:a0w F q0=some r):
  Calls prog 135 #[sv q0] w (R_b w K r):=by
 rw [a0w] at hm
 refine ci func135 u ntmps135 (sr (lv (P2 u) (P6 (mv u (lv (I2 underlying9 u) (lv (r_m u) (nq ?_)))))))
 obtain⟨A,B,d⟩:=ob hm
 refine l6 (IE A w K [] K [(0,sv q0)] []) ?_ ?_
 ·refine j7 ?_
  obtain⟨ab,C,o⟩:=ob B
  refine qf (fun (i:Nat) (q:Unit)=>IV w K [] K [(0,sv q0),(5,V6 (q0.length:Int)),(6,V6 ((i:Nat):Int))] []) C ⟨K,u,hS,kr⟩ ?_ ?_
  ·rintro i q _ D ac hi21 G H ⟨c,rfl,f,k⟩
   refine sr (lv (s7 u u) (ns (C2 u (b8 (by omega)) (j5 (l4 (p9 (j7 (sr (mv u (av u (ns ?_)))))))))))
   obtain⟨I,J,O⟩:=ob G
   refine l6 (IV w K [] c [(0,sv q0),(5,V6 (q0.length:Int)),(6,V6 ((i:Nat):Int)),(18,.bool I)] []) ?_ ?_
   ·refine j3 (mv u (mv u ?_))
    obtain⟨ad,R,S⟩:=ob J
    refine lv (L9 underlying9 u u R) (lv (c4w (b:=(32:UInt8)) u u) (mv u (bt S (fun a l=>?_) (fun a l=>?_))))
    ·refine lu a (lu a (lu a (lu a (lv (L8 u a u) (i8 ?_)))))
     cases oi l
     exact qd ⟨c,u,f,kr⟩
    refine lg a (i5 u) (lg a (i5 u) ?_)
    obtain⟨ae,T,U⟩:=ob l
    refine lg a (L9 underlying9 u u T) (lg a (c4v (b:=(126:UInt8)) u u) (lv (o4 u a u) (i8 ?_)))
    cases oi U
    exact qd ⟨c,u,f,kr⟩
   rintro _ af ⟨s,rfl,x,V⟩
   refine l4 (D4 O u (fun W m=>?_) (fun W m=>?_))
   ·refine sr (lv (P2 u) (nq (l3 (j6 (g8 (g8 ?_))))))
    cases oi m
    cases H _ u
    refine j6 (g8 ?_)
    cases oi o
    refine g8 ?_
    cases oi d
    exact ey results135 ⟨s,u,x⟩
   refine j5 (x9 (qg (lv (A3 u u (B5 hi21 y)) (mv u (i8 ?_)))))
   cases oi m
   exact qd ⟨_,u,s,u,x,(k.trans V)⟩
  rintro q _ D X ⟨c,rfl,f,k⟩
  subst X
  refine sr (lv (s7 u u) (ns (C1 u (c6 (by omega)) (w8 (g6 (g6 (l5 ?_)))))))
  cases oi o
  exact qd ⟨_,c,u,u,f,k⟩
 rintro _ w9 ⟨s5,Y,rfl,rfl,aa,ai⟩
 have d:=F6 d
 refine qr (mv u (lv (I2 underlying9 u) (lv (W5 u u) (av u (nq (l3 ?_))))))
 cases oi d
 exact ey results135 ⟨Y,u,aa⟩

theorem a56 {q0:y5}{r:Bool}(hS:SH w K [] w K [])(aH:i7 q0.Id)(D:b7 K5 K A a b q0.Fields)(G:b7 M5 K B c d q0.Nums)(hm:a01 F q0=some r):
  Calls prog 78 #[.agg #[V6 q0.Id,V3 A a b,V3 B c d]] w (R_b w K r):=by
 rw [a01] at hm
 refine ci func78 u ntmps78 (sr (bx u hS fun k cT aI=>?_))
 have Y:SH _ _ _ _ _ [u9 k [V6 q0.Id,V3 A a b,V3 B c d] 67]:=aI
 refine lv (P2 u) (ns (p9 ?_))
 obtain⟨aJ,aK,aL⟩:=ob hm
 refine l6 (IV w K [] K [(1,pt k),(22,.bool aJ)] [u9 k [V6 q0.Id,V3 A a b,V3 B c d] 67]) ?_ ?_
 ·refine j3 (fl S6 u E4 m0 Y u ?_)
  obtain⟨cU,aM,aN⟩:=ob aK
  refine lk a3H (C3 F Y.enter0 aH (by decide :i7 1) (by decide :i7 9999) aM) ?_
  rintro cV cW ⟨aa,rfl,C⟩
  have H:=(Y.c0 C).t1
  refine lv (A4 u) (mv u (bt aN (fun o ab=>?_) (fun o ab=>?_)))
  ·refine lu o (lu o (lu o (lu o (lv (L8 u o u) (mv u (lu u (lu u (lu u (lu u ?_)))))))))
   refine lv (L8 u u u) (i8 ?_)
   cases oi ab
   exact qd ⟨aa,u,H,C.le⟩
  refine lg o (c9 a0R u) (lg o (u6 a6E u m0 H u) (lg o (q7 underlying64 u (D.mono C.le)) (lg o (F9 u u) (lv (o4 u o u) (mv u (bt ab (fun q ac=>?_) (fun q ac=>?_)))))))
  ·refine lu q (lu q (lu q (lu q (lv (L8 u q u) (i8 ?_)))))
   cases oi ac
   exact qd ⟨aa,u,H,C.le⟩
  refine lg q (c9 a1a u) (lg q (u6 a6Y u m0 H u) (lg q (q7 underlying65 u (G.mono C.le)) (lg q (F9 u u) (lv (o4 u q u) (i8 ?_)))))
  cases oi ac
  exact qd ⟨aa,u,H,C.le⟩
 rintro _ cX ⟨O,rfl,ad,y⟩
 refine l4 (D4 aL u (fun aO ae=>?_) (fun aO ae=>?_))
 ·refine sr (lv (P2 u) (nq (rr ?_)))
  cases oi ae
  exact ey results78 ⟨O,u,ad.s⟩
 refine j5 (qs (sr (fl a0R u a6E m0 ad u (lv (q7 underlying64 u (D.mono y)) (lv (r_m u) (nq ?_))))))
 obtain⟨aP,aQ,R⟩:=ob ae
 refine l6 (IE aP w K [] O [(1,pt k)] [u9 k [V6 q0.Id,V3 A a b,V3 B c d] 67]) ?_ ?_
 ·refine j7 ?_
  obtain⟨cY,aR,aw⟩:=ob aQ
  refine qf (fun (af:Nat) (ax:Unit)=>IV w K [] O [(1,pt k),(24,V3 A a b),(25,V6 (q0.Fields.length:Int)),(26,V6 ((af:Nat):Int))] [u9 k [V6 q0.Id,V3 A a b,V3 B c d] 67]) aR ⟨O,u,ad,kr⟩ ?_ ?_
  ·rintro af ax _ aS cZ hi54 aT aU ⟨ag,rfl,S,I⟩
   refine sr (lv (s7 u u) (ns (C2 u (b8 (by omega)) (j5 (l4 (p9 (j7 (sr (mv u ?_)))))))))
   obtain⟨T,aV,aW⟩:=ob aT
   refine li underlying64 S1 (D.mono (y.trans I)) aV fun aX aY da aZ ba=>?_
   obtain⟨rfl,bb,bc⟩:=aZ
   have bd:E9 _ aX aY [sv T.Name,sv T.Text]:=ba
   refine lv (F5 S1 u S bd u) (al S1 S fun be db bf=>?_)
   have bg:SH _ _ _ _ _ [u9 be [sv [],sv []] 135,_]:=bf
   refine av u (lw [sv T.Name,sv T.Text] S1 bg fun dc bh=>(ns ?_))
   obtain⟨bi,bj,bk⟩:=ob aW
   refine l6 (IV w K [] ag [(1,pt k),(24,V3 A a b),(25,V6 (q0.Fields.length:Int)),(26,V6 ((af:Nat):Int)),(56,.bool bi)] [u9 k [V6 q0.Id,V3 A a b,V3 B c d] 67]) ?_ ?_
   ·refine E1 mixed (by kernel_rfl) bh (kv (c9 a4p u) (kh (z6 H3 u m0 u) ?_))
    obtain⟨dd,bl,bm⟩:=ob bj
    refine kc a9w (fun _ _ bn de=>(I1 F) bn.enter0 bb bl) (kv (A4 u) (km u (bt bm (fun s ah=>?_) (fun s ah=>?_))))
    ·refine kn s (kn s (kn s (kn s (kv (L8 u s u) (km u (qv u u u u (qv u u u u (qv u u u u ?_))))))))
     iterate 10 refine ku ?_
     refine qv u u u u (kv (L8 u u u) (B7 ?_))
     rintro df ⟨bo,bp,bq⟩
     cases oi ah
     exact qd ⟨bo,u,bp.s,bq⟩
    refine kg s (c9 a9A u) (kgh s (z6 H3 u m0 u) ?_)
    obtain⟨dg,br,bs⟩:=ob ah
    refine kcg s c1v (fun _ _ bu dh=>(a5s F) bu.enter0 bc br) (kg s (A4 u) (kv (o4 u s u) (km u (bt bs (fun l ai=>?_) (fun l ai=>?_)))))
    ·refine kn l (kn l (kn l ?_))
     iterate 10 refine ku ?_
     refine kn l (kv (L8 u l u) (B7 ?_))
     rintro di ⟨bv,bz,bA⟩
     cases oi ai
     exact qd ⟨bv,u,bz.s,bA⟩
    refine kg l (i5 u) (kg l (F9 u u) (kg l (i5 u) (bt ai (fun f aj=>?_) (fun f aj=>?_))))
    ·refine kg f (c9 a0R u) (kgh f (z6 a6E u m1 u) (kg f (i5 u) (kg f (H2 u u) ?_)))
     obtain⟨ay,bB,bC⟩:=ob aj
     refine D2 (t:=K5) (wg u u f) u underlying64 S1 u u (D.mono (y.trans I)) bB fun bD bE dj bF bG=>?_
     obtain⟨rfl,dk,dl⟩:=bF
     have bH:E9 _ bD bE [sv ay.Name,sv ay.Text]:=bG
     refine kg f (c9 a4p u) (kgh f (B6 H3 u (bH 0 _ u)) (kg f (c9 a4p u) (kgh f (z6 H3 u m0 u) (kg f (b5V u u) (kg l (o0 u f u) (kv (o4 u l u) (B7 ?_)))))))
     rintro dm ⟨bI,bJ,bK⟩
     cases oi bC
     exact qd ⟨bI,u,bJ.s,bK⟩
    iterate 10 refine kn f ?_
    refine kg l (J6 u f u) (kv (o4 u l u) (B7 ?_))
    rintro dn ⟨bL,bM,bN⟩
    cases oi aj
    exact qd ⟨bL,u,bM.s,bN⟩
   rintro _ dp ⟨az,rfl,aA,bO⟩
   refine l4 (D4 bk u (fun bP ak=>?_) (fun bP ak=>?_))
   ·refine sr (lv (P2 u) (nq (l3 (j6 (g8 (g8 ?_))))))
    cases oi ak
    cases aU _ u
    refine j6 (g8 ?_)
    cases oi aw
    refine g8 ?_
    cases oi R
    exact ey results78 ⟨az,u,aA.s⟩
   refine j5 (x9 (qg (lv (A3 u u (B5 hi54 (b7.max (D.mono y)))) (mv u (i8 ?_)))))
   cases oi ak
   exact qd ⟨_,u,az,u,aA,(I.trans bO)⟩
  rintro ax _ aS bQ ⟨ag,rfl,S,I⟩
  subst bQ
  refine sr (lv (s7 u u) (ns (C1 u (c6 (by omega)) (w8 (g6 (g6 (l5 ?_)))))))
  cases oi aw
  exact qd ⟨_,ag,u,u,S,I⟩
 rintro _ dq ⟨dr,am,rfl,rfl,aB,U⟩
 have R:=F6 R
 refine qs (sr (fl a1a u a6Y m0 aB u (lv (q7 underlying65 u (G.mono (y.trans U))) (lv (r_m u) (nq ?_)))))
 obtain⟨bR,bS,V⟩:=ob R
 refine l6 (IE bR w K [] am [] []) ?_ ?_
 ·refine j7 ?_
  obtain⟨ds,bT,aC⟩:=ob bS
  refine qf (fun (an:Nat) (aD:Unit)=>IV w K [] am [(1,pt k),(59,V3 B c d),(60,V6 (q0.Nums.length:Int)),(61,V6 ((an:Nat):Int))] [u9 k [V6 q0.Id,V3 A a b,V3 B c d] 67]) bT ⟨am,u,aB,kr⟩ ?_ ?_
  ·rintro an aD _ bU dt hi156 bV bW ⟨ao,rfl,W,J⟩
   refine sr (lv (s7 u u) (ns (C2 u (b8 (by omega)) (j5 (l4 (p9 (j7 (sr (mv u ?_)))))))))
   obtain⟨X,bX,bY⟩:=ob bV
   refine li underlying65 V4 (G.mono ((y.trans U).trans J)) bX fun bZ ca du cb cc=>?_
   obtain⟨rfl,cd,ce⟩:=cb
   have cf:E9 _ bZ ca [sv X.Name,V6 X.Num]:=cc
   refine lv (F5 V4 u W cf u) (al V4 W fun cg dv ch=>?_)
   have cj:SH _ _ _ _ _ [u9 cg [sv [],V6 0] 202,_]:=ch
   refine av u (lw [sv X.Name,V6 X.Num] V4 cj fun dw ck=>(ns ?_))
   obtain⟨cl,cm,cn⟩:=ob bY
   refine l6 (IV w K [] ao [(1,pt k),(59,V3 B c d),(60,V6 (q0.Nums.length:Int)),(61,V6 ((an:Nat):Int)),(91,.bool cl)] [u9 k [V6 q0.Id,V3 A a b,V3 B c d] 67]) ?_ ?_
   ·refine E1 mixed (by kernel_rfl) ck (kv (c9 a5O u) (kh (z6 H3 u m0 u) ?_))
    obtain⟨dx,cp,cq⟩:=ob cm
    refine kc a9w (fun _ _ cr dy=>(I1 F) cr.enter0 cd cp) (kv (A4 u) (km u (bt cq (fun x ap=>?_) (fun x ap=>?_))))
    ·refine kn x (kn x (kn x (kn x (kv (L8 u x u) (km u (qv u u u u (qv u u u u (qv u u u u ?_))))))))
     iterate 10 refine ku ?_
     refine qv u u u u (kv (L8 u u u) (B7 ?_))
     rintro dz ⟨cs,ct,cu⟩
     cases oi ap
     exact qd ⟨cs,u,ct.s,cu⟩
    refine kg x (c9 b2s u) (kgh x (z6 E4 u m0 u) ?_)
    obtain⟨dA,cv,cw⟩:=ob ap
    refine kcg x a3H (fun _ _ cx dB=>(C3 F) cx.enter0 ce M1 (by decide :i7 999999999) cv) (kg x (A4 u) (kv (o4 u x u) (km u (bt cw (fun m aq=>?_) (fun m aq=>?_)))))
    ·refine kn m (kn m (kn m ?_))
     iterate 10 refine ku ?_
     refine kn m (kv (L8 u m u) (B7 ?_))
     rintro dC ⟨cy,cz,cA⟩
     cases oi aq
     exact qd ⟨cy,u,cz.s,cA⟩
    refine kg m (i5 u) (kg m (F9 u u) (kg m (i5 u) (bt aq (fun i ar=>?_) (fun i ar=>?_))))
    ·refine kg i (c9 a1a u) (kgh i (z6 a6Y u m1 u) (kg i (i5 u) (kg i (H2 u u) ?_)))
     obtain⟨aE,cB,cC⟩:=ob ar
     refine D2 (t:=M5) (wg u u i) u underlying65 V4 u u (G.mono ((y.trans U).trans J)) cB fun cD cE dD cF cG=>?_
     obtain⟨rfl,dE,dF⟩:=cF
     have cH:E9 _ cD cE [sv aE.Name,V6 aE.Num]:=cG
     refine kg i (c9 a5O u) (kgh i (B6 H3 u (cH 0 _ u)) (kg i (c9 a5O u) (kgh i (z6 H3 u m0 u) (kg i (b5V u u) (kg m (o0 u i u) (kv (o4 u m u) (B7 ?_)))))))
     rintro dG ⟨cI,cJ,cK⟩
     cases oi cC
     exact qd ⟨cI,u,cJ.s,cK⟩
    iterate 10 refine kn i ?_
    refine kg m (J6 u i u) (kv (o4 u m u) (B7 ?_))
    rintro dH ⟨cL,cM,cN⟩
    cases oi ar
    exact qd ⟨cL,u,cM.s,cN⟩
   rintro _ dI ⟨aF,rfl,aG,cO⟩
   refine l4 (D4 cn u (fun cP au=>?_) (fun cP au=>?_))
   ·refine sr (lv (P2 u) (nq (l3 (j6 (g8 (g8 ?_))))))
    cases oi au
    cases bW _ u
    refine j6 (g8 ?_)
    cases oi aC
    refine g8 ?_
    cases oi V
    exact ey results78 ⟨aF,u,aG.s⟩
   refine j5 (x9 (qg (lv (A3 u u (B5 hi156 (b7.max (G.mono (y.trans U))))) (mv u (i8 ?_)))))
   cases oi au
   exact qd ⟨_,u,aF,u,aG,(J.trans cO)⟩
  rintro aD _ bU cQ ⟨ao,rfl,W,J⟩
  subst cQ
  refine sr (lv (s7 u u) (ns (C1 u (c6 (by omega)) (w8 (g6 (g6 (l5 ?_)))))))
  cases oi aC
  exact H9 ⟨_,ao,u,u,W.s,J⟩ trivial
 rintro _ dJ ⟨dK,cR,rfl,rfl,cS,dL⟩
 have V:=F6 V
 refine qr (lv (r_t u) (nq (l3 ?_)))
 cases oi V
 exact ey results78 ⟨cR,u,cS⟩

theorem a5r {q0:List y5}{r:Bool}(hS:SH w K [] w K [])(f:b7 F8 K A a b q0)(hm:a0v F q0=some r):
  Calls prog 53 #[V3 A a b] w (R_b w K r):=by
 rw [a0v] at hm
 refine ci func53 u ntmps53 (sr (lv (P2 u) (P6 (mv u (lv (q7 underlying27 u f) (lv (r_m u) (nq ?_)))))))
 obtain⟨U,V,k⟩:=ob hm
 refine l6 (IE U w K [] K [(0,V3 A a b)] []) ?_ ?_
 ·refine j7 ?_
  obtain⟨bc,W,J⟩:=ob V
  refine qf (fun (m:Nat) (O:Unit)=>IV w K [] K [(0,V3 A a b),(5,V3 A a b),(6,V6 (q0.length:Int)),(7,V6 ((m:Nat):Int))] []) W ⟨K,u,hS,kr⟩ ?_ ?_
  ·rintro m O _ X bd hi23 Y aa ⟨o,rfl,l,i⟩
   refine sr (lv (s7 u u) (ns (C2 u (b8 (by omega)) (j5 (l4 (p9 (j7 (sr (mv u ?_)))))))))
   obtain⟨q,ab,ac⟩:=ob Y
   refine li underlying27 F7 (f.mono i) ab fun ad ae be af ag=>?_
   obtain⟨s,x,y,B,C,D,rfl,ah,ai,aj⟩:=af
   have ak:E9 _ ad ae [V6 q.Id,V3 s x y,V3 B C D]:=ag
   refine lv (F5 F7 u l ak u) (al F7 l fun am bf an=>?_)
   have ao:SH _ _ _ _ _ [u9 am [V6 0,V3 none 0 0,V3 none 0 0] 67]:=an
   refine av u (lw [V6 q.Id,V3 s x y,V3 B C D] F7 ao fun bg ap=>(ns ?_))
   obtain⟨aq,ar,au⟩:=ob ac
   refine l6 (IV w K [] o [(0,V3 A a b),(5,V3 A a b),(6,V6 (q0.length:Int)),(7,V6 ((m:Nat):Int)),(29,.bool aq)] []) ?_ ?_
   ·refine E1 mixed (by kernel_rfl) ap (kh (J7 (ds:=[V6 q.Id,V3 s x y,V3 B C D]) F7 u m0 u u) ?_)
    obtain⟨bh,aw,ax⟩:=ob ar
    refine kc c4S (fun _ _ ay R=>(a56 F) ay.enter0 ah (ai.mono R) (aj.mono R) aw) (kv (A4 u) (km u (bt ax (fun c G=>?_) (fun c G=>?_))))
    ·refine kn c (kn c (kn c ?_))
     iterate 9 refine ku ?_
     refine kn c (kv (L8 u c u) (B7 ?_))
     rintro bi ⟨az,aA,aB⟩
     cases oi G
     exact qd ⟨az,u,aA.s,aB⟩
    refine kg c (i5 u) (kg c (F9 u u) (kg c (i5 u) (bt G (fun d H=>?_) (fun d H=>?_))))
    ·refine kg d (i5 u) (kg d (i5 u) (kg d (H2 u u) ?_))
     obtain⟨aC,aD,aE⟩:=ob H
     refine D2 (t:=F8) (wg u u d) u underlying27 F7 u u (f.mono i) aD fun aF aG bj aH aI=>?_
     obtain⟨aJ,aK,aL,aM,aN,aO,rfl,bk,bl,bm⟩:=aH
     have aP:E9 _ aF aG [V6 aC.Id,V3 aJ aK aL,V3 aM aN aO]:=aI
     refine kg d (c9 S6 u) (kgh d (B6 E4 u (aP 0 _ u)) (kg d (c9 S6 u) (kgh d (z6 E4 u m0 u) (kg d (a3S u u) (kg c (o0 u d u) (kv (o4 u c u) (B7 ?_)))))))
     rintro bn ⟨aQ,aR,aS⟩
     cases oi aE
     exact qd ⟨aQ,u,aR.s,aS⟩
    iterate 9 refine kn d ?_
    refine kg c (J6 u d u) (kv (o4 u c u) (B7 ?_))
    rintro bo ⟨aT,aU,aV⟩
    cases oi H
    exact qd ⟨aT,u,aU.s,aV⟩
   rintro _ bp ⟨S,rfl,T,aW⟩
   refine l4 (D4 au u (fun aX I=>?_) (fun aX I=>?_))
   ·refine sr (lv (P2 u) (nq (l3 (j6 (g8 (g8 ?_))))))
    cases oi I
    cases aa _ u
    refine j6 (g8 ?_)
    cases oi J
    refine g8 ?_
    cases oi k
    exact ey results53 ⟨S,u,T⟩
   refine j5 (x9 (qg (lv (A3 u u (B5 hi23 (b7.max f))) (mv u (i8 ?_)))))
   cases oi I
   exact qd ⟨_,u,S,u,T,(i.trans aW)⟩
  rintro O _ X aY ⟨o,rfl,l,i⟩
  subst aY
  refine sr (lv (s7 u u) (ns (C1 u (c6 (by omega)) (w8 (g6 (g6 (l5 ?_)))))))
  cases oi J
  exact qd ⟨_,o,u,u,l,i⟩
 rintro _ bq ⟨s8,K9,rfl,rfl,ba,bb⟩
 have k:=F6 k
 refine qr (mv u (lv (q7 underlying27 u (f.mono bb)) (lv (W5 u u) (av u (nq (l3 ?_))))))
 cases oi k
 exact ey results53 ⟨K9,u,ba⟩

theorem a58 {q0:UInt8}{r:UInt8}(hS:SH w K [] w K [])(hm:a03 F q0=some r):
  Calls prog 137 #[iv8 q0] w fun e w'=>∃K',e= .returned (iv8 r)∧SH w K [] w' K' []:=by
 rw [a03] at hm
 refine ci func137 u ntmps137 (sr (lv (x8 (v:=iv8 0) u) (ns (p9 ?_))))
 obtain⟨k,l,m⟩:=ob hm
 refine l6 (IV w K [] K [(0,iv8 q0),(8,.bool k)] []) ?_ ?_
 ·refine j3 (mv u (lv (a71 (b:=(65:UInt8)) u u) (mv u (bt l (fun a c=>?_) (fun a c=>?_)))))
  ·refine lg a (i5 u) (lg a (a73 (b:=(90:UInt8)) u u) (lv (o0 u a u) (i8 ?_)))
   cases oi c
   exact qd ⟨K,u,hS,kr⟩
  refine lu a (lu a (lv (J6 u a u) (i8 ?_)))
  cases oi c
  exact qd ⟨K,u,hS,kr⟩
 rintro _ q ⟨f,rfl,i,s⟩
 refine l4 (D4 m u (fun o d=>?_) (fun o d=>?_))
 ·refine sr (mv u (lv (b9I (b:=(97:UInt8)) u u) (lv (c3I (b:=(65:UInt8)) u u) (av u (nq (rr ?_))))))
  cases oi d
  exact ey results137 ⟨f,u,i⟩
 refine j5 (qr (mv u (av u (nq (l3 ?_)))))
 cases oi d
 exact ey results137 ⟨f,u,i⟩

theorem b1Z {q0:q9}{r:(List Z5)}(hS:SH w K [] w K [])(aI:q0.length≤maxLen)(hm:a11 F q0=some r):
  Calls prog 75 #[sv q0] w fun e w'=>∃a_1 n_2 c_3 K',e= .returned (V3 a_1 n_2 c_3)∧SH w K [] w' K' [tail (V3 a_1 n_2 c_3) 131 4]∧b7 a6j K' a_1 n_2 c_3 r:=by
 rw [a11] at hm
 refine ci func75 u ntmps75 (sr (lv (r_n u) (nr (b0 a6j underlying127 a3Y hS fun a2 w3 K4 cp an ao=>(av u (P6 (mv u ?_)))))))
 obtain⟨r8,aJ,aK⟩:=ob hm
 refine lk c1v (a5s F ao.enter0 aI aJ) ?_
 rintro cr ct ⟨J,rfl,W⟩
 have ap:=(ao.c0 W).t1
 refine lv (A4 u) (nq (D4 aK u (fun aL X=>?_) (fun aL X=>?_)))
 ·refine sr (mv u (av u (nq (rr ?_))))
  cases oi X
  exact ey results75 ⟨a2,0,0,J,u,ap,(an.mono W.le)⟩
 refine j5 (qs (sr (lv (N4 u) (nq ?_))))
 obtain⟨aM,aN,aO⟩:=ob X
 refine l6 (fun E' w'=>∃A B C D,E'=[(3,V3 A B C)]∧SH w K [] w' D [tail (V3 A B C) 131 4]∧I9 J D∧b7 a6j D A B C aM) ?_ ?_
 ·refine j7 ?_
  obtain⟨cu,aP,aQ⟩:=ob aN
  refine qw (fun (a:(List Z5)×Int) E' w'=>∃c d f G,E'=[(0,sv q0),(3,V3 c d f),(4,V6 a.2)]∧SH w K [] w' G [tail (V3 c d f) 131 4]∧I9 J G∧b7 a6j G c d f a.1∧i7 a.2) aP ⟨a2,0,0,J,u,ap,kr,(an.mono W.le),M1⟩ ?_
  rintro a _ cv cw aR aS ⟨c,d,f,G,rfl,Y,aa,H,aq⟩
  refine p9 (sr (mv u (mv u (lv (I2 underlying9 u) (lv (s7 u u) (nq (D4 aR u (fun aT ab=>?_) (fun aT ab=>?_))))))))
  ·refine j5 (l4 (j7 (p9 (sr (mv u (mv u ?_))))))
   obtain⟨cx,aU,aV⟩:=ob ab
   refine lv (L9 underlying9 u u aU) ?_
   obtain⟨cy,aW,aX⟩:=ob aV
   refine lk c1w (a58 F Y.enter0 aW) ?_
   rintro cz cA ⟨cB,rfl,o⟩
   have ar:=(Y.c0 o).t1
   obtain⟨cC,aY,aZ⟩:=ob aX
   refine lk b87 (a2z F ar.enter0 aY) ?_
   rintro cD cE ⟨ba,rfl,q⟩
   have au:=(ar.c0 q).t1
   refine lv (A4 u) (nq (D4 aZ u (fun bb ac=>?_) (fun bb ac=>?_)))
   ·refine sr (mv u (lv (y4 u u) (av u (nq (w8 (g6 (l5 ?_)))))))
    cases oi ac
    exact qd ⟨_,u,c,d,f,ba,u,au,((aa.trans o.le).trans q.le),(H.mono (o.le.trans q.le)),(s6 _)⟩
   refine j5 (qr (mv u (lv (q7 underlying127 u (H.mono (o.le.trans q.le))) (mv u (lv (D3 (cs:=#[sv [],V6 (a.1.length:Int),V6 a.2,V6 0]) c4z a3Y u (by kernel_rfl)) (al a3Y au fun s cF bc=>?_))))))
   have bd:SH _ _ _ _ _ [u9 s [sv [],V6 0,V6 0,V6 0] 131,_]:=bc
   refine ls [sv [],V6 (a.1.length:Int),V6 a.2,V6 0] (.agg #[sv [],V6 (a.1.length:Int),V6 a.2,V6 0]) a3Y bd fun cG be=>(nr (b0 tU8 underlying22 tf5 be fun bf cH ad aw bg bh=>(av u (ns ?_))))
   obtain⟨b,bi,bj⟩:=ob ac
   refine l6 (fun E' w'=>∃O R S T,E'=[(0,sv q0),(3,V3 c d f),(4,V6 b.1),(5,pt s),(6,V3 O R S)]∧SH w K [] w' T [u9 s [sv [],V6 (a.1.length:Int),V6 a.2,V6 0] 131,tail (V3 c d f) 131 4,tail (V3 O R S) 5 1]∧I9 ad T∧i7 b.1∧b7 tU8 T O R S b.2) ?_ ?_
   ·refine j7 ?_
    obtain⟨cI,bk,bl⟩:=ob bi
    refine qw (fun (I:Int×(List UInt8)) E' w'=>∃k l m y,E'=[(0,sv q0),(3,V3 c d f),(4,V6 I.1),(5,pt s),(6,V3 k l m)]∧SH w K [] w' y [u9 s [sv [],V6 (a.1.length:Int),V6 a.2,V6 0] 131,tail (V3 c d f) 131 4,tail (V3 k l m) 5 1]∧I9 ad y∧i7 I.1∧b7 tU8 y k l m I.2) bk ⟨bf,0,0,ad,u,bh.f2.f2,kr,aq,bg⟩ ?_
    rintro I _ cJ cK bm bn ⟨k,l,m,y,rfl,ae,af,bo,U⟩
    refine p9 (p9 ?_)
    obtain⟨bp,bq,br⟩:=ob bm
    refine l6 (IV w K [] y [(0,sv q0),(3,V3 c d f),(4,V6 I.1),(5,pt s),(6,V3 k l m),(39,.bool bp)] [u9 s [sv [],V6 (a.1.length:Int),V6 a.2,V6 0] 131,tail (V3 c d f) 131 4,tail (V3 k l m) 5 1]) ?_ ?_
    ·refine j3 (mv u (mv u (lv (I2 underlying9 u) (lv (s7 u u) (mv u (bt bq (fun i ag=>?_) (fun i ag=>?_)))))))
     ·refine lg i (i5 u) (lg i (i5 u) ?_)
      obtain⟨bs,bu,bv⟩:=ob ag
      refine lg i (L9 underlying9 u u bu) ?_
      obtain⟨bx,bz,bA⟩:=ob bv
      refine A0 (wg u u i) u (z7 (vs:=[iv8 bs]) c1w u) (a58 F ae.enter0 bz) ?_
      rintro cL cM ⟨cN,rfl,ax⟩
      refine⟨_,u,?_⟩
      have ay:=(ae.c0 ax).t3
      obtain⟨cO,bB,bC⟩:=ob bA
      refine A0 (wg u u i) u (z7 (vs:=[iv8 bx]) b87 u) (a2z F ay.enter0 bB) ?_
      rintro cP cQ ⟨bD,rfl,az⟩
      refine⟨_,u,?_⟩
      have bE:=(ay.c0 az).t3
      refine lv (o0 u i u) (i8 ?_)
      cases oi bC
      exact qd ⟨bD,u,bE,(ax.le.trans az.le)⟩
     iterate 5 refine lu i ?_
     refine lv (J6 u i u) (i8 ?_)
     cases oi ag
     exact qd ⟨y,u,ae,kr⟩
    rintro _ cR ⟨aA,rfl,V,x⟩
    refine l4 (D4 br u (fun bF ah=>?_) (fun bF ah=>?_))
    ·refine j5 (l4 (j7 (p9 (sr (mv u (lv (q7 underlying22 u (U.mono x)) (lv (s7 u u) (nq (D4 ah u (fun bG ai=>?_) (fun bG ai=>?_))))))))))
     ·refine j3 (mv u (mv u (mv u ?_)))
      obtain⟨cS,bH,bI⟩:=ob ai
      refine lv (L9 underlying9 u u bH) ?_
      obtain⟨aj,bJ,bK⟩:=ob bI
      refine lk c1w (a58 F V.enter0 bJ) ?_
      rintro cT cU ⟨cV,rfl,ak⟩
      have bL:=(V.c0 ak).t3
      refine lb tU8 (iv8 aj) [iv8 aj] aj underlying22 tf5 u bL fun cW cX cY aB bM bN=>?_
      obtain⟨cZ,bO,bP⟩:=ob bK
      refine lp underlying22 tf5 (U.mono ((x.trans ak.le).trans aB)) bM bO bN.f3 fun bQ bR bS da bT bU bV bW=>(av u (nq (j3 (mv u (lv (y4 u u) (av u (nb ?_)))))))
      cases oi bP
      exact qd ⟨_,u,bQ,bR,bS,bT,u,bW.f3.f3.s,((((af.trans x).trans ak.le).trans aB).trans bU),(s6 _),bV⟩
     refine j5 (l4 (j3 (mv u (lv (y4 u u) (av u (nb ?_))))))
     cases oi ai
     exact qd ⟨_,u,k,l,m,aA,u,V,(af.trans x),(s6 _),(U.mono x)⟩
    refine w8 (g6 (g6 ?_))
    cases oi ah
    cases bn _ u
    refine l5 ?_
    cases oi bl
    exact qd ⟨k,l,m,aA,u,V,(af.trans x),bo,(U.mono x)⟩
   rintro _ db ⟨O,R,S,T,rfl,aC,aD,aE,aF⟩
   refine qr (mv u (lv (c2p underlying22 underlying5 underlying9 u aF aC) (mv u (fa a9z u (ls [sv b.2,V6 (a.1.length:Int),V6 a.2,V6 0] (sv b.2) H3 aC fun dc bX=>(fa c3l u (ls [sv b.2,V6 (a.1.length:Int),V6 a.2,V6 b.1] (V6 b.1) E4 bX fun dd aG=>(nq (j3 ?_)))))))))
   refine mv u (lv (n8 (ds:=[sv b.2,V6 (a.1.length:Int),V6 a.2,V6 b.1]) a3Y u m0 aG u u) (lb a6j (.agg #[sv b.2,V6 (a.1.length:Int),V6 a.2,V6 b.1]) [sv b.2,V6 (a.1.length:Int),V6 a.2,V6 b.1] (Z5.mk b.2 (a.1.length:Int) a.2 b.1) underlying127 a3Y ⟨u,(b7.max aF),(H.mono (o.le.trans q.le)).rn,aq,aE⟩ aG fun de df dg aH bY bZ=>?_))
   obtain⟨dh,ca,cb⟩:=ob bj
   refine lp underlying127 a3Y (b7.mono ((((o.le.trans q.le).trans aw).trans aD).trans aH) H) bY ca bZ.f2 fun cc cd ce di cf cg ch cj=>(av u (nb ?_))
   cases oi cb
   exact qd ⟨_,u,cc,cd,ce,cf,u,cj.s,((((((aa.trans o.le).trans q.le).trans aw).trans aD).trans aH).trans cg),ch,aE⟩
  refine w8 (g6 (g6 ?_))
  cases oi ab
  cases aS _ u
  refine l5 ?_
  cases oi aQ
  exact qd ⟨c,d,f,G,u,Y,aa,H⟩
 rintro _ dj ⟨A,B,C,D,rfl,ck,dk,cl⟩
 refine qr (mv u (av u (nq (l3 ?_))))
 cases oi aO
 exact ey results75 ⟨A,B,C,D,u,ck,cl⟩

theorem a7M {q0:q9}{r:Bool}(hS:SH w K [] w K [])(A:q0.length≤maxLen)(hm:a1B F q0=some r):
  Calls prog 236 #[sv q0] w (R_b w K r):=by
 rw [a1B] at hm
 refine ci func236 u ntmps236 (sr (lv (P2 u) (P6 (mv u (lv (I2 underlying9 u) (lv (r_m u) (nq ?_)))))))
 obtain⟨I,J,d⟩:=ob hm
 refine l6 (IE I w K [] K [(0,sv q0)] []) ?_ ?_
 ·refine j7 ?_
  obtain⟨ao,O,B⟩:=ob J
  refine qf (fun (k:Nat) (C:Unit)=>IV w K [] K [(0,sv q0),(5,V6 (q0.length:Int)),(6,V6 ((k:Nat):Int))] []) O ⟨K,u,hS,kr⟩ ?_ ?_
  ·rintro k C _ R ap hi21 S T ⟨l,rfl,f,m⟩
   refine sr (lv (s7 u u) (ns (C2 u (b8 (by omega)) (j5 (l4 (p9 (j7 (sr (mv u (av u (ns ?_)))))))))))
   obtain⟨U,V,W⟩:=ob S
   refine l6 (IV w K [] l [(0,sv q0),(5,V6 (q0.length:Int)),(6,V6 ((k:Nat):Int)),(25,.bool U)] []) ?_ ?_
   ·refine j3 (mv u (mv u ?_))
    obtain⟨aq,X,Y⟩:=ob V
    refine lv (L9 underlying9 u u X) ?_
    obtain⟨ar,aa,ab⟩:=ob Y
    refine lk b87 (a2z F f.enter0 aa) ?_
    rintro au aw ⟨o,rfl,i⟩
    have q:=(f.c0 i).t0
    refine lv (A4 u) (mv u (bt ab (fun a s=>?_) (fun a s=>?_)))
    ·refine lg a (i5 u) (lg a (i5 u) ?_)
     obtain⟨ax,ac,ad⟩:=ob s
     refine lg a (L9 underlying9 u u ac) (lg a (a74 (b:=(42:UInt8)) u u) (lv (o0 u a u) (mv u (bt ad (fun c x=>?_) (fun c x=>?_)))))
     ·refine lg c (i5 u) (lg c (i5 u) ?_)
      obtain⟨ay,ae,af⟩:=ob x
      refine lg c (L9 underlying9 u u ae) (lg c (a74 (b:=(63:UInt8)) u u) (lv (o0 u c u) (i8 ?_)))
      cases oi af
      exact qd ⟨o,u,q,i.le⟩
     refine lu c (lu c (lu c (lu c (lv (J6 u c u) (i8 ?_)))))
     cases oi x
     exact qd ⟨o,u,q,i.le⟩
    refine lu a (lu a (lu a (lu a (lv (J6 u a u) (mv u (lu u (lu u (lu u (lu u ?_)))))))))
    refine lv (J6 u u u) (i8 ?_)
    cases oi s
    exact qd ⟨o,u,q,i.le⟩
   rintro _ az ⟨D,rfl,G,ag⟩
   refine l4 (D4 W u (fun ah y=>?_) (fun ah y=>?_))
   ·refine sr (lv (P2 u) (nq (l3 (j6 (g8 (g8 ?_))))))
    cases oi y
    cases T _ u
    refine j6 (g8 ?_)
    cases oi B
    refine g8 ?_
    cases oi d
    exact ey results236 ⟨D,u,G⟩
   refine j5 (x9 (qg (lv (A3 u u (B5 hi21 A)) (mv u (i8 ?_)))))
   cases oi y
   exact qd ⟨_,u,D,u,G,(m.trans ag)⟩
  rintro C _ R ai ⟨l,rfl,f,m⟩
  subst ai
  refine sr (lv (s7 u u) (ns (C1 u (c6 (by omega)) (w8 (g6 (g6 (l5 ?_)))))))
  cases oi B
  exact qd ⟨_,l,u,u,f,m⟩
 rintro _ w9 ⟨s5,K6,rfl,rfl,H,aD⟩
 have d:=F6 d
 refine qr (mv u (lv (I2 underlying9 u) ?_))
 obtain⟨aE,aj,ak⟩:=ob d
 refine lk a3H (C3 F H.enter0 (a5R A) (by decide :i7 1) (by decide :i7 12) aj) ?_
 rintro aF aG ⟨al,rfl,am⟩
 have an:=(H.c0 am).t0
 refine av u (nq (l3 ?_))
 cases oi ak
 exact ey results236 ⟨al,u,an⟩

theorem b3c (F:Nat): ∀{w:World} {K:F0} {k:Option Addr} {l o:Nat} {x:Option Addr} {y A:Nat} {gb14:Nat} {q0:r5} {q1:Int} {r:Bool} (hS:SH w K [] w K []) (bH:i7 q0.Kind) (bj:q0.Field.length≤maxLen) (W:b7 D8 K k l o q0.Words) (aB:i7 q0.From) (bk:i7 q0.To) (X:b7 F3 K x y A q0.Kids) (bI:i7 q1) (hG15:a5U C5 0 gb14 L3 w) (hm:H8 F q0 q1=some r),
  Calls prog 167 #[.agg #[V6 q0.Kind,sv q0.Field,V3 k l o,V6 q0.From,V6 q0.To,V3 x y A],V6 q1] w (R_b w K r):=by
 induction F with
 | zero=>intros;rename_i hm;rw [H8] at hm;cases hm
 | succ F ih=>
  intro w K k l o x y A gb14 q0 q1 r hS bH bj W aB bk X bI hG15 hm
  rw [H8] at hm
  refine ci func167 u ntmps167 (sr (bx u hS fun d dB bJ=>?_))
  have ak:SH _ _ _ _ _ [u9 d [V6 q0.Kind,sv q0.Field,V3 k l o,V6 q0.From,V6 q0.To,V3 x y A] 33]:=bJ
  refine lv (P2 u) (nr (lv (c2r c60 u (hG15.keep ak)) (fl a5Y u E4 m0 ak u (lv (show RV _ _ _ _ (.tuple #[.agg #[.bool ((z8 q0.Kind).field_),V6 ((z8 q0.Kind).leastWords_),V6 ((z8 q0.Kind).mostWords_),V6 ((z8 q0.Kind).low_),V6 ((z8 q0.Kind).high_),.bool ((z8 q0.Kind).ranged_),V6 ((z8 q0.Kind).leastKids_),V6 ((z8 q0.Kind).mostKids_)],.bool (J3 q0.Kind)]) from c2s (cells:=C5) (m:=L3) underlying291 underlying3 c2Q u u (hG15.keep ak) c7s) (mv u (lv (B2 u u) (lv (B2 u u) (al c2Q ak fun af dC bK=>?_))))))))
  have bL:SH _ _ _ _ _ [u9 af [.bool false,V6 0,V6 0,V6 0,V6 0,.bool false,V6 0,V6 0] 289,_]:=bK
  refine lw [.bool ((z8 q0.Kind).field_),V6 ((z8 q0.Kind).leastWords_),V6 ((z8 q0.Kind).mostWords_),V6 ((z8 q0.Kind).low_),V6 ((z8 q0.Kind).high_),.bool ((z8 q0.Kind).ranged_),V6 ((z8 q0.Kind).leastKids_),V6 ((z8 q0.Kind).mostKids_)] c2Q bL fun dD C=>(av u (ns (p9 ?_)))
  obtain⟨bM,bN,bO⟩:=ob hm
  refine l6 (IV w K [] K [(1,V6 q1),(2,pt d),(5,pt af),(41,.bool bM)] [u9 d [V6 q0.Kind,sv q0.Field,V3 k l o,V6 q0.From,V6 q0.To,V3 x y A] 33,u9 af [.bool ((z8 q0.Kind).field_),V6 ((z8 q0.Kind).leastWords_),V6 ((z8 q0.Kind).mostWords_),V6 ((z8 q0.Kind).low_),V6 ((z8 q0.Kind).high_),.bool ((z8 q0.Kind).ranged_),V6 ((z8 q0.Kind).leastKids_),V6 ((z8 q0.Kind).mostKids_)] 289]) ?_ ?_
  ·refine j3 (mv u (lv (A4 u) (mv u (bt bN (fun U aC=>?_) (fun U aC=>?_)))))
   ·refine lu U (lu U (lv (L8 u U u) (mv u ?_)))
    iterate 6 refine lu u ?_
    refine lv (L8 u u u) (mv u (lu u (lu u (lu u (A2 (uu u u) u (A2 (uu u u) u (A2 (uu u u) u (A2 (uu u u) u (lu u ?_)))))))))
    refine lv (L8 u u u) (i8 ?_)
    cases oi aC
    exact qd ⟨K,u,C.f1,kr⟩
   refine lg U (i5 u) (lg U (s7 u u) (lv (o4 u U u) (mv u (bt aC (fun D aD=>?_) (fun D aD=>?_)))))
   ·iterate 6 refine lu D ?_
    refine lv (L8 u D u) (mv u (lu u (lu u (lu u (A2 (uu u u) u (A2 (uu u u) u (A2 (uu u u) u (A2 (uu u u) u (lu u ?_)))))))))
    refine lv (L8 u u u) (i8 ?_)
    cases oi aD
    exact qd ⟨K,u,C.f1,kr⟩
   refine lg D (c9 b9c u) (lg D (u6 tf4 u m0 C u) (lg D (c9 W2 u) (lg D (u6 H3 u m1 C u) (lg D (a1V (r:=([]:q9)) u u) (lg D (c0C underlying4 u u) (lv (o4 u D u) (mv u (bt aD (fun f aE=>?_) (fun f aE=>?_)))))))))
   ·refine lu f (lu f (lu f (A2 (uu u u) u (A2 (uu u u) u (A2 (uu u u) u (A2 (uu u u) u (lu f (lv (L8 u f u) (i8 ?_)))))))))
    cases oi aE
    exact qd ⟨K,u,C.f1,kr⟩
   refine lg f (c9 b9c u) (lg f (u6 tf4 u m0 C u) (lg f (i5 u) (bt aE (fun B aF=>?_) (fun B aF=>?_))))
   ·refine lg B (c9 W2 u) (lg B (u6 H3 u m1 C u) ?_)
    obtain⟨dE,bP,bQ⟩:=ob aF
    refine A0 (wg u u B) u (z7 (vs:=[sv q0.Field]) a9w u) (I1 F C.enter0 bj bP) ?_
    rintro dF dG ⟨bR,rfl,bl⟩
    refine⟨_,u,?_⟩
    have bS:=(C.c0 bl).t2
    refine lg B (A4 u) (lg f (o0 u B u) (lv (o4 u f u) (i8 ?_)))
    cases oi bQ
    exact qd ⟨bR,u,bS.f1,bl.le⟩
   refine lu B (lu B (lu B (lu B (lg f (J6 u B u) (lv (o4 u f u) (i8 ?_))))))
   cases oi aF
   exact qd ⟨K,u,C.f1,kr⟩
  rintro _ dH ⟨bm,rfl,Y,G⟩
  refine l4 (D4 bO u (fun bT aG=>?_) (fun bT aG=>?_))
  ·refine sr (lv (P2 u) (nq (rr ?_)))
   cases oi aG
   exact ey results167 ⟨bm,u,Y.s⟩
  refine j5 (qs (p9 ?_))
  obtain⟨bU,bV,bW⟩:=ob aG
  refine l6 (IV w K [] bm [(1,V6 q1),(2,pt d),(5,pt af),(71,.bool bU)] [u9 d [V6 q0.Kind,sv q0.Field,V3 k l o,V6 q0.From,V6 q0.To,V3 x y A] 33,u9 af [.bool ((z8 q0.Kind).field_),V6 ((z8 q0.Kind).leastWords_),V6 ((z8 q0.Kind).mostWords_),V6 ((z8 q0.Kind).low_),V6 ((z8 q0.Kind).high_),.bool ((z8 q0.Kind).ranged_),V6 ((z8 q0.Kind).leastKids_),V6 ((z8 q0.Kind).mostKids_)] 289]) ?_ ?_
  ·refine j3 (fl Z9 u T1 m0 Y u (lv (q7 underlying23 u (W.mono G)) (fl c3m u E4 m1 Y u (fl c3n u E4 m1 Y u ?_))))
   obtain⟨dI,bX,bY⟩:=ob bV
   refine lk a3H (C3 F Y.enter0 (W.mono G).rn (c4W _) (c4X _) bX) ?_
   rintro dJ dK ⟨bZ,rfl,aa⟩
   have ab:=(Y.c0 aa).t2
   refine lv (A4 u) (mv u (bt bY (fun i aH=>?_) (fun i aH=>?_)))
   ·iterate 9 refine lu i ?_
    refine lv (L8 u i u) (mv u ?_)
    iterate 8 refine lu u ?_
    refine lv (L8 u u u) (i8 ?_)
    cases oi aH
    exact qd ⟨bZ,u,ab,aa.le⟩
   refine lg i (c9 T6 u) (lg i (u6 a4H u m0 ab u) (lg i (q7 underlying31 u (X.mono (G.trans aa.le))) (lg i (c9 c3q u) (lg i (u6 E4 u m1 ab u) (lg i (c9 c3r u) (lg i (u6 E4 u m1 ab u) ?_))))))
   obtain⟨dL,ca,cb⟩:=ob aH
   refine A0 (wg u u i) u (z7 (vs:=[V6 (q0.Kids.length:Int),V6 ((z8 q0.Kind).leastKids_),V6 ((z8 q0.Kind).mostKids_)]) a3H u) (C3 F ab.enter0 (X.mono (G.trans aa.le)).rn (c40 _) (c41 _) ca) ?_
   rintro dM dN ⟨cc,rfl,aI⟩
   refine⟨_,u,?_⟩
   have ac:=(ab.c0 aI).t2
   refine lg i (A4 u) (lv (o4 u i u) (mv u (bt cb (fun q aJ=>?_) (fun q aJ=>?_))))
   ·iterate 8 refine lu q ?_
    refine lv (L8 u q u) (i8 ?_)
    cases oi aJ
    exact qd ⟨cc,u,ac,(aa.le.trans aI.le)⟩
   refine lg q (c9 a0Q u) (lg q (u6 E4 u m0 ac u) (lg q (c9 c3o u) (lg q (u6 E4 u m1 ac u) (lg q (c9 c3p u) (lg q (u6 E4 u m1 ac u) ?_)))))
   obtain⟨dO,cd,ce⟩:=ob aJ
   refine A0 (wg u u q) u (z7 (vs:=[V6 q0.From,V6 ((z8 q0.Kind).low_),V6 ((z8 q0.Kind).high_)]) a3H u) (C3 F ac.enter0 aB (c4Y _) (c4Z _) cd) ?_
   rintro dP dQ ⟨cf,rfl,bn⟩
   refine⟨_,u,?_⟩
   have cg:=(ac.c0 bn).t2
   refine lg q (A4 u) (lv (o4 u q u) (i8 ?_))
   cases oi ce
   exact qd ⟨cf,u,cg,((aa.le.trans aI.le).trans bn.le)⟩
  rintro _ dR ⟨am,rfl,H,ad⟩
  refine l4 (D4 bW u (fun ch aK=>?_) (fun ch aK=>?_))
  ·refine sr (lv (P2 u) (nq (rr ?_)))
   cases oi aK
   exact ey results167 ⟨am,u,H.s⟩
  refine j5 (qs (p9 ?_))
  obtain⟨cj,ck,cl⟩:=ob aK
  refine l6 (IV w K [] am [(1,V6 q1),(2,pt d),(91,.bool cj)] [u9 d [V6 q0.Kind,sv q0.Field,V3 k l o,V6 q0.From,V6 q0.To,V3 x y A] 33]) ?_ ?_
  ·refine j3 (fl b5v u tf4 m1 H u (mv u (bt ck (fun I aL=>?_) (fun I aL=>?_))))
   ·refine lg I (c9 a35 u) (lg I (u6 E4 u m0 H u) (lg I (c9 a0Q u) (lg I (u6 E4 u m0 H u) ?_)))
    obtain⟨dS,cm,cn⟩:=ob aL
    refine A0 (wg u u I) u (z7 (vs:=[V6 q0.To,V6 q0.From,V6 999999999]) a3H u) (C3 F H.enter0 bk aB (by decide :i7 999999999) cm) ?_
    rintro dT dU ⟨aM,rfl,an⟩
    refine⟨_,u,?_⟩
    have ag:=(H.c0 an).t2
    refine lg I (A4 u) (lv (o0 u I u) (mv u (bt cn (fun a aN=>?_) (fun a aN=>?_))))
    ·refine lu a (lu a (lu a (lu a (A2 (uu u u) u (A2 (uu u u) u (A2 (uu u u) u (lu a (lv (L8 u a u) (i8 ?_)))))))))
     cases oi aN
     exact qd ⟨aM,u,ag.s,an.le⟩
    refine lg a (c9 b5v u) (lg a (u6 tf4 u m1 ag u) (lg a (A4 u) (lg a (i5 u) (bt aN (fun O aO=>?_) (fun O aO=>?_)))))
    ·refine lg O (c9 a35 u) (lg O (u6 E4 u m0 ag u) (lg O (S7 u u) (lg a (o0 u O u) (lv (o4 u a u) (i8 ?_)))))
     cases oi aO
     exact qd ⟨aM,u,ag.s,an.le⟩
    refine lu O (lu O (lu O (lg a (J6 u O u) (lv (o4 u a u) (i8 ?_)))))
    cases oi aO
    exact qd ⟨aM,u,ag.s,an.le⟩
   iterate 6 refine lu I ?_
   refine lv (J6 u I u) (mv u (lg u (c9 b5v u) (lg u (u6 tf4 u m1 H u) (lg u (A4 u) (lg u (i5 u) (bt aL (fun R aP=>?_) (fun R aP=>?_)))))))
   ·refine lg R (c9 a35 u) (lg R (u6 E4 u m0 H u) (lg R (S7 u u) (lg u (o0 u R u) (lv (o4 u u u) (i8 ?_)))))
    cases oi aP
    exact qd ⟨am,u,H.s,kr⟩
   refine lu R (lu R (lu R (lg u (J6 u R u) (lv (o4 u u u) (i8 ?_)))))
   cases oi aP
   exact qd ⟨am,u,H.s,kr⟩
  rintro _ dV ⟨ao,rfl,aQ,ae⟩
  refine l4 (D4 cl u (fun cp aR=>?_) (fun cp aR=>?_))
  ·refine sr (lv (P2 u) (nq (rr ?_)))
   cases oi aR
   exact ey results167 ⟨ao,u,aQ.s⟩
  refine j5 (qs (sr (fl Z9 u T1 m0 aQ u (lv (q7 underlying23 u (W.mono ((G.trans ad).trans ae))) (lv (r_m u) (nq ?_))))))
  obtain⟨cq,cr,ap⟩:=ob aR
  refine l6 (IE cq w K [] ao [(1,V6 q1),(2,pt d)] [u9 d [V6 q0.Kind,sv q0.Field,V3 k l o,V6 q0.From,V6 q0.To,V3 x y A] 33]) ?_ ?_
  ·refine j7 ?_
   obtain⟨dW,cs,bo⟩:=ob cr
   refine qf (fun (aS:Nat) (bp:Unit)=>IV w K [] ao [(1,V6 q1),(2,pt d),(93,V3 k l o),(94,V6 (q0.Words.length:Int)),(95,V6 ((aS:Nat):Int))] [u9 d [V6 q0.Kind,sv q0.Field,V3 k l o,V6 q0.From,V6 q0.To,V3 x y A] 33]) cs ⟨ao,u,aQ,kr⟩ ?_ ?_
   ·rintro aS bp _ ct dX hi150 cu cv ⟨aq,rfl,J,ar⟩
    refine sr (lv (s7 u u) (ns (C2 u (b8 (by omega)) (j5 (l4 (p9 (j7 (sr ?_))))))))
    obtain⟨ah,cw,cx⟩:=ob cu
    refine li underlying23 H3 (b7.mono (((G.trans ad).trans ae).trans ar) W) cw fun cy cz dY cA cB=>?_
    obtain⟨rfl,au⟩:=cA
    have cC:E9 _ cy cz [sv ah]:=cB
    refine lv (y7 H3 u J (cC 0 _ u)) (av u (ns ?_))
    obtain⟨cD,cE,cF⟩:=ob cx
    refine l6 (IV w K [] aq [(1,V6 q1),(2,pt d),(93,V3 k l o),(94,V6 (q0.Words.length:Int)),(95,V6 ((aS:Nat):Int)),(120,.bool cD)] [u9 d [V6 q0.Kind,sv q0.Field,V3 k l o,V6 q0.From,V6 q0.To,V3 x y A] 33]) ?_ ?_
    ·refine j3 (fl a5Y u E4 m0 J u (lv (A6 u u) (mv u (bt cE (fun b aT=>?_) (fun b aT=>?_)))))
     ·refine lg b (i5 u) ?_
      obtain⟨dZ,cG,cH⟩:=ob aT
      refine A0 (wg u u b) u (z7 (vs:=[sv ah]) c4h u) (a7M F J.enter0 au cG) ?_
      rintro ea eb ⟨cI,rfl,ai⟩
      refine⟨_,u,?_⟩
      have aU:=(J.c0 ai).t1
      refine lg b (A4 u) (lg b (i5 u) (bt cH (fun V aV=>?_) (fun V aV=>?_)))
      ·refine lu V (lu V (lg b (L8 u V u) (lv (o0 u b u) (mv u (lu u (lu u (lu u (lu u (A2 (uu u u) u ?_)))))))))
       refine A2 (uu u u) u (A2 (uu u u) u (lu u (lv (L8 u u u) (i8 ?_))))
       cases oi aV
       exact qd ⟨cI,u,aU,ai.le⟩
      refine lg V (i5 u) ?_
      obtain⟨ec,cJ,cK⟩:=ob aV
      refine A0 (wg u u V) u (z7 (vs:=[sv ah]) a9w u) (I1 F aU.enter0 au cJ) ?_
      rintro ed ee ⟨bq,rfl,aw⟩
      refine⟨_,u,?_⟩
      have aj:=(aU.c0 aw).t1
      refine lg b (o4 u V u) (lv (o0 u b u) (mv u (bt cK (fun c aW=>?_) (fun c aW=>?_))))
      ·refine lu c (lu c (lu c (lu c (A2 (uu u u) u (A2 (uu u u) u (A2 (uu u u) u (lu c (lv (L8 u c u) (i8 ?_)))))))))
       cases oi aW
       exact qd ⟨bq,u,aj,(ai.le.trans aw.le)⟩
      refine lg c (c9 a5Y u) (lg c (u6 E4 u m0 aj u) (lg c (S7 u u) (lg c (i5 u) (bt aW (fun S aX=>?_) (fun S aX=>?_)))))
      ·refine lg S (i5 u) ?_
       obtain⟨ef,cL,cM⟩:=ob aX
       refine A0 (wg u u S) u (z7 (vs:=[sv ah]) a9w u) (I1 F aj.enter0 au cL) ?_
       rintro eg eh ⟨cN,rfl,br⟩
       refine⟨_,u,?_⟩
       have cO:=(aj.c0 br).t1
       refine lg S (A4 u) (lg c (o0 u S u) (lv (o4 u c u) (i8 ?_)))
       cases oi cM
       exact qd ⟨cN,u,cO,((ai.le.trans aw.le).trans br.le)⟩
      refine lu S (lu S (lu S (lg c (J6 u S u) (lv (o4 u c u) (i8 ?_)))))
      cases oi aX
      exact qd ⟨bq,u,aj,(ai.le.trans aw.le)⟩
     refine lu b (lu b (lu b (lu b (A2 (uu u u) u (A2 (uu u u) u (lu b (lv (J6 u b u) (mv u (lg u (c9 a5Y u) ?_)))))))))
     refine lg u (u6 E4 u m0 J u) (lg u (S7 u u) (lg u (i5 u) (bt aT (fun T aY=>?_) (fun T aY=>?_))))
     ·refine lg T (i5 u) ?_
      obtain⟨ei,cP,cQ⟩:=ob aY
      refine A0 (wg u u T) u (z7 (vs:=[sv ah]) a9w u) (I1 F J.enter0 au cP) ?_
      rintro ej ek ⟨cR,rfl,bs⟩
      refine⟨_,u,?_⟩
      have cS:=(J.c0 bs).t1
      refine lg T (A4 u) (lg u (o0 u T u) (lv (o4 u u u) (i8 ?_)))
      cases oi cQ
      exact qd ⟨cR,u,cS,bs.le⟩
     refine lu T (lu T (lu T (lg u (J6 u T u) (lv (o4 u u u) (i8 ?_)))))
     cases oi aY
     exact qd ⟨aq,u,J,kr⟩
    rintro _ el ⟨bu,rfl,bv,cT⟩
    refine l4 (D4 cF u (fun cU aZ=>?_) (fun cU aZ=>?_))
    ·refine sr (lv (P2 u) (nq (l3 (j6 (g8 (g8 ?_))))))
     cases oi aZ
     cases cv _ u
     refine j6 (g8 ?_)
     cases oi bo
     refine g8 ?_
     cases oi ap
     exact ey results167 ⟨bu,u,bv.s⟩
    refine j5 (x9 (qg (lv (A3 u u (B5 hi150 (b7.max (W.mono ((G.trans ad).trans ae))))) (mv u (i8 ?_)))))
    cases oi aZ
    exact qd ⟨_,u,bu,u,bv,(ar.trans cT)⟩
   rintro bp _ ct cV ⟨aq,rfl,J,ar⟩
   subst cV
   refine sr (lv (s7 u u) (ns (C1 u (c6 (by omega)) (w8 (g6 (g6 (l5 ?_)))))))
   cases oi bo
   exact qd ⟨_,aq,u,u,J,ar⟩
  rintro _ em ⟨en,ba,rfl,rfl,bz,bb⟩
  have ap:=F6 ap
  refine qs (sr (fl T6 u a4H m0 bz u (lv (q7 underlying31 u (b7.mono (((G.trans ad).trans ae).trans bb) X)) (lv (r_m u) (nq ?_)))))
  obtain⟨cW,cX,ax⟩:=ob ap
  refine l6 (IE cW w K [] ba [] []) ?_ ?_
  ·refine j7 ?_
   obtain⟨eo,cY,bA⟩:=ob cX
   have cZ:=bz.sb (sd sz)
   refine qf (fun (bB:Nat) (bC:Unit)=>IV w K [] ba [(1,V6 q1),(123,V3 x y A),(124,V6 (q0.Kids.length:Int)),(125,V6 ((bB:Nat):Int))] []) cY ⟨ba,u,cZ,kr⟩ ?_ ?_
   ·rintro bB bC _ da ep hi237 db dc ⟨bD,rfl,ay,az⟩
    refine sr (lv (s7 u u) (ns (C2 u (b8 (by omega)) (j5 (l4 (p9 (j7 (sr ?_))))))))
    obtain⟨s,dd,de⟩:=ob db
    refine li underlying31 C6 (b7.mono ((((G.trans ad).trans ae).trans bb).trans az) X) dd fun df dg eq dh di=>?_
    obtain⟨bc,bd,be,bf,bg,bh,rfl,dj,dk,dl,dm,dn,dp⟩:=Q6 dh
    have dq:E9 _ df dg [V6 s.Kind,sv s.Field,V3 bc bd be,V6 s.From,V6 s.To,V3 bf bg bh]:=di
    refine lv (F5 C6 u ay dq u) (al C6 ay fun dr es dt=>?_)
    have du:SH _ _ _ _ _ [u9 dr [V6 0,sv [],V3 none 0 0,V6 0,V6 0,V3 none 0 0] 33]:=dt
    refine lw [V6 s.Kind,sv s.Field,V3 bc bd be,V6 s.From,V6 s.To,V3 bf bg bh] C6 du fun et aA=>(nr (lv (n8 (ds:=[V6 s.Kind,sv s.Field,V3 bc bd be,V6 s.From,V6 s.To,V3 bf bg bh]) C6 u m0 aA u u) (mv u (lv (H2 u u) ?_))))
    obtain⟨eu,dv,dw⟩:=ob de
    refine lk c4a (ih aA.enter0 dj dk dl dm dn dp (s6 _) (hG15.keep aA) dv) ?_
    rintro ev ew ⟨bE,rfl,bF⟩
    have bG:=(aA.c0 bF).t1
    refine lv (A4 u) (nq (D4 dw u (fun dx bi=>?_) (fun dx bi=>?_)))
    ·refine sr (lv (P2 u) (nq (l3 (j6 (g8 (g8 ?_))))))
     cases oi bi
     cases dc _ u
     refine j6 (g8 ?_)
     cases oi bA
     refine g8 ?_
     cases oi ax
     exact ey results167 ⟨bE,u,bG.s⟩
    refine j5 (x9 (qg (lv (A3 u u (B5 hi237 (b7.max (b7.mono (((G.trans ad).trans ae).trans bb) X)))) (mv u (i8 ?_)))))
    cases oi bi
    exact qd ⟨_,u,bE,u,bG.s,(az.trans bF.le)⟩
   rintro bC _ da dy ⟨bD,rfl,ay,az⟩
   subst dy
   refine sr (lv (s7 u u) (ns (C1 u (c6 (by omega)) (w8 (g6 (g6 (l5 ?_)))))))
   cases oi bA
   exact H9 ⟨_,bD,u,u,ay,az⟩ trivial
  rintro _ ex ⟨eA,dz,rfl,rfl,dA,eB⟩
  have ax:=F6 ax
  refine qr (lv (r_t u) (nq (l3 ?_)))
  cases oi ax
  exact ey results167 ⟨dz,u,dA⟩

theorem b1W {q0:r5}{r:Bool}(hS:SH w K [] w K [])(k:i7 q0.Kind)(l:q0.Field.length≤maxLen)(m:b7 D8 K A a b q0.Words)(o:i7 q0.From)(q:i7 q0.To)(s:b7 F3 K B c d q0.Kids)(hG14:a5U C5 0 f L3 w)(hm:X6 F q0=some r):
  Calls prog 103 #[.agg #[V6 q0.Kind,sv q0.Field,V3 A a b,V6 q0.From,V6 q0.To,V3 B c d]] w (R_b w K r):=by
 rw [X6] at hm
 refine ci func103 u ntmps103 (sr (bx u hS fun x J y=>?_))
 have i:SH _ _ _ _ _ [u9 x [V6 q0.Kind,sv q0.Field,V3 A a b,V6 q0.From,V6 q0.To,V3 B c d] 33]:=y
 refine lv (P2 u) (nr (lv (n8 (ds:=[V6 q0.Kind,sv q0.Field,V3 A a b,V6 q0.From,V6 q0.To,V3 B c d]) C6 u m0 i u u) ?_))
 obtain⟨O,C,D⟩:=ob hm
 refine lk c4a (b3c F i.enter0 k l m o q s (by decide :i7 4) (hG14.keep i) C) ?_
 rintro R S ⟨G,rfl,H⟩
 have I:=(i.c0 H).t1
 refine av u (nq (l3 ?_))
 cases oi D
 exact ey results103 ⟨G,u,I.s⟩

theorem a5q {q0:y5}{q1:q9}{r:Int}(hS:SH w K [] w K [])(O:i7 q0.Id)(R:b7 K5 K A a b q0.Fields)(f:b7 M5 K B c d q0.Nums)(ay:q1.length≤maxLen)(hm:W7 F q0 q1=some r):
  Calls prog 129 #[.agg #[V6 q0.Id,V3 A a b,V3 B c d],sv q1] w (R_i w K r):=by
 rw [W7] at hm
 refine ci func129 u ntmps129 (sr (bx u hS fun S az T=>?_))
 have y:SH _ _ _ _ _ [u9 S [V6 q0.Id,V3 A a b,V3 B c d] 67]:=T
 refine lv (N4 u) (P6 (lv (n8 (ds:=[V6 q0.Id,V3 A a b,V3 B c d]) F7 u m0 y u u) ?_))
 obtain⟨aA,U,V⟩:=ob hm
 refine lk c4S (a56 F y.enter0 O R f U) ?_
 rintro aB aC ⟨i,rfl,k⟩
 have C:=(y.c0 k).t1
 refine nq (D4 V u (fun W D=>?_) (fun W D=>?_))
 ·refine sr (fl a1a u a6Y m0 C u (lv (q7 underlying65 u (f.mono k.le)) (lv (r_m u) (nq ?_))))
  obtain⟨X,Y,l⟩:=ob D
  refine l6 (IE X w K [] i [] []) ?_ ?_
  ·refine j7 ?_
   obtain⟨aD,aa,H⟩:=ob Y
   have ab:=C.sb (sd sz)
   refine qf (fun (I:Nat) (J:Unit)=>IV w K [] i [(1,sv q1),(10,V3 B c d),(11,V6 (q0.Nums.length:Int)),(12,V6 ((I:Nat):Int))] []) aa ⟨i,u,ab,kr⟩ ?_ ?_
   ·rintro I J _ ac aE hi44 ad ae ⟨m,rfl,o,q⟩
    refine sr (lv (s7 u u) (ns (C2 u (b8 (by omega)) (j5 (l4 (p9 (j7 (sr ?_))))))))
    obtain⟨s,af,ag⟩:=ob ad
    refine li underlying65 V4 (f.mono (k.le.trans q)) af fun ah ai aF aj ak=>?_
    obtain⟨rfl,aG,am⟩:=aj
    have an:E9 _ ah ai [sv s.Name,V6 s.Num]:=ak
    refine lv (F5 V4 u o an u) (al V4 o fun ao aH ap=>?_)
    have aq:SH _ _ _ _ _ [u9 ao [sv [],V6 0] 202]:=ap
    refine lw [sv s.Name,V6 s.Num] V4 aq fun aI x=>(nr (fl a5O u H3 m0 x u (mv u (lv (M3 u u) (nq (D4 ag u (fun ar G=>?_) (fun ar G=>?_)))))))
    ·refine sr (fl b2s u E4 m0 x u (av u (nq (l3 (j6 (g8 (g8 ?_)))))))
     cases oi G
     cases ae _ u
     refine j6 (g8 ?_)
     cases oi H
     refine g8 ?_
     cases oi l
     exact ey results129 ⟨m,u,x.s,am⟩
    refine j5 (x9 (qg (lv (A3 u u (B5 hi44 (b7.max (f.mono k.le)))) (mv u (i8 ?_)))))
    cases oi G
    exact qd ⟨_,u,m,u,x.s,q⟩
   rintro J _ ac au ⟨m,rfl,o,q⟩
   subst au
   refine sr (lv (s7 u u) (ns (C1 u (c6 (by omega)) (w8 (g6 (g6 (l5 ?_)))))))
   cases oi H
   exact H9 ⟨_,m,u,u,o,q⟩ trivial
  rintro _ aJ ⟨aK,aw,rfl,rfl,ax,aL⟩
  have l:=F6 l
  refine qr (lv (x8 (v:=V6 (-1)) u) (nq (l3 ?_)))
  cases oi l
  exact ey results129 ⟨aw,u,ax,(by decide :i7 (-1))⟩
 refine j5 (qr (lv (x8 (v:=V6 (-1)) u) (nq (l3 ?_))))
 cases oi D
 exact ey results129 ⟨i,u,C.s,(by decide :i7 (-1))⟩

theorem b0F {q0:y5}{q1:q9}{r:q9}(hS:SH w K [] w K [])(O:i7 q0.Id)(f:b7 K5 K A a b q0.Fields)(R:b7 M5 K B c d q0.Nums)(ay:q1.length≤maxLen)(hm:U4 F q0 q1=some r):
  Calls prog 29 #[.agg #[V6 q0.Id,V3 A a b,V3 B c d],sv q1] w fun e w'=>∃K',e= .returned (sv r)∧SH w K [] w' K' []∧r.length≤maxLen:=by
 rw [U4] at hm
 refine ci func29 u ntmps29 (sr (bx u hS fun S az T=>?_))
 have y:SH _ _ _ _ _ [u9 S [V6 q0.Id,V3 A a b,V3 B c d] 67]:=T
 refine lv (r_s u) (P6 (lv (n8 (ds:=[V6 q0.Id,V3 A a b,V3 B c d]) F7 u m0 y u u) ?_))
 obtain⟨aA,U,V⟩:=ob hm
 refine lk c4S (a56 F y.enter0 O f R U) ?_
 rintro aB aC ⟨i,rfl,k⟩
 have C:=(y.c0 k).t1
 refine nq (D4 V u (fun W D=>?_) (fun W D=>?_))
 ·refine sr (fl a0R u a6E m0 C u (lv (q7 underlying64 u (f.mono k.le)) (lv (r_m u) (nq ?_))))
  obtain⟨X,Y,l⟩:=ob D
  refine l6 (IE X w K [] i [] []) ?_ ?_
  ·refine j7 ?_
   obtain⟨aD,aa,H⟩:=ob Y
   have ab:=C.sb (sd sz)
   refine qf (fun (I:Nat) (J:Unit)=>IV w K [] i [(1,sv q1),(10,V3 A a b),(11,V6 (q0.Fields.length:Int)),(12,V6 ((I:Nat):Int))] []) aa ⟨i,u,ab,kr⟩ ?_ ?_
   ·rintro I J _ ac aE hi44 ad ae ⟨m,rfl,o,q⟩
    refine sr (lv (s7 u u) (ns (C2 u (b8 (by omega)) (j5 (l4 (p9 (j7 (sr ?_))))))))
    obtain⟨s,af,ag⟩:=ob ad
    refine li underlying64 S1 (f.mono (k.le.trans q)) af fun ah ai aF aj ak=>?_
    obtain⟨rfl,aG,am⟩:=aj
    have an:E9 _ ah ai [sv s.Name,sv s.Text]:=ak
    refine lv (F5 S1 u o an u) (al S1 o fun ao aH ap=>?_)
    have aq:SH _ _ _ _ _ [u9 ao [sv [],sv []] 135]:=ap
    refine lw [sv s.Name,sv s.Text] S1 aq fun aI x=>(nr (fl a4p u H3 m0 x u (mv u (lv (M3 u u) (nq (D4 ag u (fun ar G=>?_) (fun ar G=>?_)))))))
    ·refine sr (fl a9A u H3 m0 x u (av u (nq (l3 (j6 (g8 (g8 ?_)))))))
     cases oi G
     cases ae _ u
     refine j6 (g8 ?_)
     cases oi H
     refine g8 ?_
     cases oi l
     exact ey results29 ⟨m,u,x.s,am⟩
    refine j5 (x9 (qg (lv (A3 u u (B5 hi44 (b7.max (f.mono k.le)))) (mv u (i8 ?_)))))
    cases oi G
    exact qd ⟨_,u,m,u,x.s,q⟩
   rintro J _ ac au ⟨m,rfl,o,q⟩
   subst au
   refine sr (lv (s7 u u) (ns (C1 u (c6 (by omega)) (w8 (g6 (g6 (l5 ?_)))))))
   cases oi H
   exact H9 ⟨_,m,u,u,o,q⟩ trivial
  rintro _ aJ ⟨aK,aw,rfl,rfl,ax,aL⟩
  have l:=F6 l
  refine qr (lv (r_s u) (nq (l3 ?_)))
  cases oi l
  exact ey results29 ⟨aw,u,ax,(by decide :([]:q9).length≤maxLen)⟩
 refine j5 (qr (lv (r_s u) (nq (l3 ?_))))
 cases oi D
 exact ey results29 ⟨i,u,C.s,(by decide :([]:q9).length≤maxLen)⟩

theorem a7a {q0:Int}{q1:Int}{r:Int}(hS:SH w K [] w K [])(l:i7 q0)(m:i7 q1)(hm:a0H F q0 q1=some r):
  Calls prog 322 #[V6 q0,V6 q1] w (R_i w K r):=by
 rw [a0H] at hm
 refine ci func322 u ntmps322 (sr (lv (N4 u) (ns ?_)))
 obtain⟨c,o,q⟩:=ob hm
 refine l6 (IW w K [] K [(0,V6 c)] [] (i7 c)) ?_ ?_
 ·refine j7 ?_
  obtain⟨T,s,x⟩:=ob o
  refine qw (fun (a:Int×Int)=>IW w K [] K [(0,V6 a.1),(1,V6 a.2)] [] (i7 a.1∧i7 a.2)) s ⟨K,u,hS,kr,l,m⟩ ?_
  rintro a _ U V y A ⟨B,rfl,d,f,i,C⟩
  refine p9 (sr (mv u (lv (S7 u u) (nq (D4 y u (fun D b=>?_) (fun D b=>?_))))))
  ·refine j5 (l4 (j7 (E1 mixed (by kernel_rfl) d (km u (km u (km u ?_))))))
   obtain⟨W,k,G⟩:=ob b
   refine kv (a6U u u k) (kv (x8 u) (kv (x8 u) (B7 ?_)))
   rintro X ⟨H,I,J⟩
   refine x9 ?_
   cases oi G
   exact qd ⟨_,u,H,u,I,(f.trans J),C,(b2E i k)⟩
  refine w8 (g6 (g6 ?_))
  cases oi b
  cases A _ u
  refine l5 ?_
  cases oi x
  exact qd ⟨B,u,d,f,i⟩
 rintro _ Y ⟨O,rfl,R,aa,S⟩
 refine qr (mv u (mv u (lv (a78 u) (lv (b9J u u) (av u (nq (l3 ?_)))))))
 cases oi q
 exact ey results322 ⟨O,u,R,(b9D S (s6 _))⟩

theorem a8N {q0:a6m}{r:Bool}(hS:SH w K [] w K [])(l:i7 q0.Up)(m:i7 q0.Down)(hm:a2q F q0=some r):
  Calls prog 289 #[.agg #[V6 q0.Up,V6 q0.Down]] w (R_b w K r):=by
 rw [a2q] at hm
 refine ci func289 u ntmps289 (sr (bx u hS fun g3 R o=>?_))
 have f:SH _ _ _ _ _ [u9 g3 [V6 q0.Up,V6 q0.Down] 238]:=o
 refine lv (P2 u) (nr (fl b2u u E4 m0 f u ?_))
 obtain⟨S,q,s⟩:=ob hm
 refine lk a3H (C3 F f.enter0 l (by decide :i7 (-1000000000)) (by decide :i7 1000000000) q) ?_
 rintro T U ⟨x,rfl,y⟩
 have d:=(f.c0 y).t1
 refine mv u (bt s (fun b i=>?_) (fun b i=>?_))
 ·refine lg b (c9 a8l u) (lg b (u6 E4 u m0 d u) ?_)
  obtain⟨V,A,B⟩:=ob i
  refine A0 (wg u u b) u (z7 (vs:=[V6 q0.Down,V6 1,V6 1000000000]) a3H u) (C3 F d.enter0 m (by decide :i7 1) (by decide :i7 1000000000) A) ?_
  rintro W X ⟨C,rfl,D⟩
  refine⟨_,u,?_⟩
  have c:=(d.c0 D).t1
  refine lv (o0 u b u) (mv u (bt B (fun a k=>?_) (fun a k=>?_)))
  ·refine lg a (c9 b2u u) (lg a (u6 E4 u m0 c u) (lg a (c9 a8l u) (lg a (u6 E4 u m0 c u) ?_)))
   obtain⟨Y,G,H⟩:=ob k
   refine A0 (wg u u a) u (z7 (vs:=[V6 q0.Up,V6 q0.Down]) c4q u) (a7a F c.enter0 l m G) ?_
   rintro aa ab ⟨I,rfl,J,ac⟩
   refine⟨_,u,?_⟩
   have O:=(c.c0 J).t1
   refine lg a (A6 u u) (lv (o0 u a u) (av u (nq (l3 ?_))))
   cases oi H
   exact ey results289 ⟨I,u,O.s⟩
  iterate 6 refine lu a ?_
  refine lv (J6 u a u) (av u (nq (l3 ?_)))
  cases oi k
  exact ey results289 ⟨C,u,c.s⟩
 refine lu b (lu b (lu b (lv (J6 u b u) (mv u ?_))))
 iterate 6 refine lu u ?_
 refine lv (J6 u u u) (av u (nq (l3 ?_)))
 cases oi i
 exact ey results289 ⟨x,u,d.s⟩

theorem b3b {q0:Int}{q1:Int}{r:a6m×Bool}(hS:SH w K [] w K [])(B:i7 q0)(C:i7 q1)(hm:a4m F q0 q1=some r):
  Calls prog 321 #[V6 q0,V6 q1] w fun e w'=>∃K',e= .returned (.tuple #[.agg #[V6 r.1.Up,V6 r.1.Down],.bool r.2])∧SH w K [] w' K' []∧i7 r.1.Up∧i7 r.1.Down:=by
 rw [a4m] at hm
 refine ci func321 u ntmps321 (sr (al Q1 hS fun g3 w4 D=>?_))
 have o:SH _ _ _ _ _ [u9 g3 [V6 0,V6 0] 238]:=D
 refine lv (P2 u) (P6 (mv u (lv (s7 u u) (nq ?_))))
 obtain⟨d,G,H⟩:=ob hm
 refine l6 (IW w K [] K [(0,V6 d.1),(1,V6 d.2),(4,pt g3)] [u9 g3 [V6 0,V6 0] 238] (i7 d.1∧i7 d.2)) ?_ ?_
 ·refine D4 G u (fun I i=>?_) (fun I i=>?_)
  ·refine j3 (mv u (lv (a78 u) (mv u (lv (a78 u) (av u (av u (i8 ?_)))))))
   cases oi i
   exact qd ⟨K,u,o,kr,(s6 _),(s6 _)⟩
  refine j5 ?_
  cases oi i
  exact qd ⟨K,u,o,kr,B,C⟩
 rintro _ ah ⟨ai,rfl,q,aj,J,O⟩
 refine qr (mv u (mv u ?_))
 obtain⟨ak,R,S⟩:=ob H
 refine lk c4q (a7a F q.enter0 J O R) ?_
 rintro am an ⟨T,rfl,U,ao⟩
 have V:=(q.c0 U).t1
 refine av u (ns ?_)
 have s:=V.drew
 refine wh1 (fun w'=>G8 T w') (fun w'=>True) 9 [] mixed (s.hasK kr) (fun _=>trivial) (gt (i5 u) (gt (i5 u) ?_))
 obtain⟨a,k,W⟩:=ob S
 refine gt (a4i u u k) (gt (i5 u) (gt (i5 u) ?_))
 obtain⟨b,l,X⟩:=ob W
 refine gt (a4i u u l) (gt (D3 (cs:=#[V6 a,V6 b]) c4E Q1 u (by kernel_rfl)) (gn (al Q1 s fun Y ap aa=>?_)))
 have x:SH _ _ _ _ _ [u9 Y [V6 0,V6 0] 238,_]:=aa
 refine i8 (qh (x.hasK kr) (fun _=>trivial) (gn (lw [V6 a,V6 b] Q1 x fun aq f=>(i8 (qh (f.hasK kr) (fun _=>trivial) (gd' (qs (sr (lv (n8 (ds:=[V6 a,V6 b]) Q1 u m0 f u u) ?_)))))))))
 obtain⟨ar,ab,ac⟩:=ob X
 refine lk c4n ((a8N F (q0:=(a6m.mk a b))) f.enter0 (a3R k) (a3R l) ab) ?_
 rintro au aw ⟨ad,rfl,ae⟩
 have y:=(f.c0 ae).t2
 refine lv (A4 u) (nq (D4 ac u (fun af m=>?_) (fun af m=>?_)))
 ·refine sr ?_
  cases m
 refine j5 (qr (lv (n8 (ds:=[V6 a,V6 b]) Q1 u m0 y u u) (lw [V6 a,V6 b] Q1 y.f1 fun ax A=>(lv (r_t u) (nq (l3 ?_))))))
 cases oi m
 exact R6 (vs:=[_,_]) results321 ⟨⟨_,_,u,A5 Q1 (cs:=[V6 a,V6 b]) (fun j c e=>by rw [Nat.zero_add,A.mem_obj m0];exact e) (.inl ⟨u,u,u⟩)⟩,u,trivial⟩ ⟨ad,u,A.s,(a3R k),(a3R l)⟩

theorem b4a {q0:Int}{q1:Int}{r:a6m×Bool}(hS:SH w K [] w K [])(q:i7 q0)(s:i7 q1)(hm:a3z F q0 q1=some r):
  Calls prog 288 #[V6 q0,V6 q1] w fun e w'=>∃K',e= .returned (.tuple #[.agg #[V6 r.1.Up,V6 r.1.Down],.bool r.2])∧SH w K [] w' K' []∧i7 r.1.Up∧i7 r.1.Down:=by
 rw [a3z] at hm
 refine ci func288 u ntmps288 (sr (al Q1 hS fun g3 w4 D=>?_))
 have x:SH _ _ _ _ _ [u9 g3 [V6 0,V6 0] 238]:=D
 refine lv (P2 u) (ns (p9 ?_))
 obtain⟨G,H,I⟩:=ob hm
 refine l6 (IV w K [] K [(0,V6 q0),(1,V6 q1),(4,pt g3),(17,.bool G)] [u9 g3 [V6 0,V6 0] 238]) ?_ ?_
 ·refine j3 (mv u ?_)
  obtain⟨ae,J,O⟩:=ob H
  refine lk a3H (C3 F x.enter0 q (by decide :i7 (-1000000000)) (by decide :i7 1000000000) J) ?_
  rintro af ag ⟨R,rfl,d⟩
  have i:=(x.c0 d).t1
  refine lv (A4 u) (mv u (bt O (fun a k=>?_) (fun a k=>?_)))
  ·refine lu a (lu a (lu a (lv (L8 u a u) (mv u (lu u (lu u (lv (L8 u u u) (i8 ?_))))))))
   cases oi k
   exact qd ⟨R,u,i,d.le⟩
  refine lg a (i5 u) ?_
  obtain⟨ah,S,T⟩:=ob k
  refine A0 (wg u u a) u (z7 (vs:=[V6 q1,V6 (-1000000000),V6 1000000000]) a3H u) (C3 F i.enter0 s (by decide :i7 (-1000000000)) (by decide :i7 1000000000) S) ?_
  rintro ai aj ⟨y,rfl,l⟩
  refine⟨_,u,?_⟩
  have A:=(i.c0 l).t1
  refine lg a (A4 u) (lv (o4 u a u) (mv u (bt T (fun b m=>?_) (fun b m=>?_))))
  ·refine lu b (lu b (lv (L8 u b u) (i8 ?_)))
   cases oi m
   exact qd ⟨y,u,A,(d.le.trans l.le)⟩
  refine lg b (i5 u) (lg b (A6 u u) (lv (o4 u b u) (i8 ?_)))
  cases oi m
  exact qd ⟨y,u,A,(d.le.trans l.le)⟩
 rintro _ ak ⟨am,rfl,B,an⟩
 refine l4 (D4 I u (fun U o=>?_) (fun U o=>?_))
 ·refine sr ?_
  cases o
 refine j5 (qr (mv u (mv u ?_)))
 obtain⟨f,V,W⟩:=ob o
 refine lk c6L (b3b F B.enter0 q s V) ?_
 rintro ao ap ⟨X,rfl,Y,aa,ab⟩
 have ac:=(B.c0 Y).t1
 refine lv (B2 u u) (lv (B2 u u) (lw [V6 f.1.Up,V6 f.1.Down] Q1 ac fun aq C=>(av u (nq (l3 ?_)))))
 cases oi W
 exact R6 (vs:=[_,_]) results288 ⟨⟨_,_,u,A5 Q1 (cs:=[V6 f.1.Up,V6 f.1.Down]) (fun j c e=>by rw [Nat.zero_add,C.mem_obj m0];exact e) (.inl ⟨u,u,u⟩)⟩,u,trivial⟩ ⟨X,u,C.s,aa,ab⟩

theorem b0H {q0:a6m}{q1:Int}{r:Int}(hS:SH w K [] w K [])(x:i7 q0.Up)(y:i7 q0.Down)(A:i7 q1)(hm:a1k F q0 q1=some r):
  Calls prog 240 #[.agg #[V6 q0.Up,V6 q0.Down],V6 q1] w (R_i w K r):=by
 rw [a1k] at hm
 refine ci func240 u ntmps240 (sr (bx u hS fun c w5 B=>?_))
 have d:SH _ _ _ _ _ [u9 c [V6 q0.Up,V6 q0.Down] 238]:=B
 refine lv (N4 u) (ns (p9 ?_))
 obtain⟨C,D,G⟩:=ob hm
 refine l6 (IV w K [] K [(1,V6 q1),(2,pt c),(13,.bool C)] [u9 c [V6 q0.Up,V6 q0.Down] 238]) ?_ ?_
 ·refine j3 (lv (n8 (ds:=[V6 q0.Up,V6 q0.Down]) Q1 u m0 d u u) ?_)
  obtain⟨ab,H,I⟩:=ob D
  refine lk c4n (a8N F d.enter0 x y H) ?_
  rintro ac ad ⟨J,rfl,f⟩
  have i:=(d.c0 f).t1
  refine lv (A4 u) (mv u (bt I (fun a k=>?_) (fun a k=>?_)))
  ·refine lu a (lu a (lu a (lv (L8 u a u) (i8 ?_))))
   cases oi k
   exact qd ⟨J,u,i,f.le⟩
  refine lg a (i5 u) ?_
  obtain⟨ae,O,R⟩:=ob k
  refine A0 (wg u u a) u (z7 (vs:=[V6 q1,V6 1,V6 1000]) a3H u) (C3 F i.enter0 A (by decide :i7 1) (by decide :i7 1000) O) ?_
  rintro af ag ⟨S,rfl,q⟩
  refine⟨_,u,?_⟩
  have T:=(i.c0 q).t1
  refine lg a (A4 u) (lv (o4 u a u) (i8 ?_))
  cases oi R
  exact qd ⟨S,u,T,(f.le.trans q.le)⟩
 rintro _ ah ⟨l,rfl,b,ai⟩
 refine l4 (D4 G u (fun U m=>?_) (fun U m=>?_))
 ·refine sr (lv (N4 u) (nq (rr ?_)))
  cases oi m
  exact ey results240 ⟨l,u,b.s,M1⟩
 refine j5 (qr (fl b2u u E4 m0 b u (mv u (lv (U9 u u) (av u (P6 (mv u (lv (a3S u u) (nq ?_)))))))))
 refine D4 m u (fun V o=>?_) (fun V o=>?_)
 ·refine sr (mv u (fl a8l u E4 m0 b u ?_))
  obtain⟨aj,s,W⟩:=ob o
  refine lv (a4i u u s) (av u (nq (rr ?_)))
  cases oi W
  exact ey results240 ⟨l,u,b.s,(a3R s)⟩
 refine j5 (qr (mv u (lv (a78 u) (fl a8l u E4 m0 b u (lv (y4 u u) (lv (H2 u u) (fl a8l u E4 m0 b u ?_)))))))
 obtain⟨ak,X,Y⟩:=ob o
 refine lv (a4i u u X) (lv (a78 u) (av u (nq (l3 ?_))))
 cases oi Y
 exact ey results240 ⟨l,u,b.s,(s6 _)⟩

theorem a4W {q0:List Int}{r:Bool}(hS:SH w K [] w K [])(f:b7 C9 K A a b q0)(hm:W9 F q0=some r):
  Calls prog 63 #[V3 A a b] w (R_b w K r):=by
 rw [W9] at hm
 refine ci func63 u ntmps63 (sr (lv (P2 u) (P6 (mv u (lv (q7 underlying51 u f) (lv (r_m u) (nq ?_)))))))
 obtain⟨J,O,m⟩:=ob hm
 refine l6 (IE J w K [] K [(0,V3 A a b)] []) ?_ ?_
 ·refine j7 ?_
  obtain⟨aB,R,D⟩:=ob O
  refine qf (fun (q:Nat) (G:Unit)=>IV w K [] K [(0,V3 A a b),(5,V3 A a b),(6,V6 (q0.length:Int)),(7,V6 ((q:Nat):Int))] []) R ⟨K,u,hS,kr⟩ ?_ ?_
  ·rintro q G _ S aC hi23 T U ⟨s,rfl,i,k⟩
   refine sr (lv (s7 u u) (ns (C2 u (b8 (by omega)) (j5 (l4 (p9 (j7 (sr (mv u ?_)))))))))
   obtain⟨V,W,X⟩:=ob T
   refine li underlying51 E4 (f.mono k) W fun Y aa aD ab ac=>?_
   obtain⟨rfl,ad⟩:=ab
   have ae:E9 _ Y aa [V6 V]:=ac
   refine lv (y7 E4 u i (ae 0 _ u)) (av u (av u (ns ?_)))
   obtain⟨af,ag,ah⟩:=ob X
   refine l6 (IV w K [] s [(0,V3 A a b),(5,V3 A a b),(6,V6 (q0.length:Int)),(7,V6 ((q:Nat):Int)),(27,.bool af)] []) ?_ ?_
   ·refine j3 (mv u ?_)
    obtain⟨aE,ai,aj⟩:=ob ag
    refine lk a3H (C3 F i.enter0 ad M1 (by decide :i7 999999999) ai) ?_
    rintro aF aG ⟨x,rfl,l⟩
    have o:=(i.c0 l).t0
    refine lv (A4 u) (mv u (bt aj (fun c y=>?_) (fun c y=>?_)))
    ·refine lu c (lu c (lu c (A2 (uu u u) u (A2 (uu u u) u (A2 (uu u u) u (A2 (uu u u) u (A2 (uu u u) u (A2 (uu u u) u (A2 (uu u u) u ?_)))))))))
     refine lu c (lv (L8 u c u) (i8 ?_))
     cases oi y
     exact qd ⟨x,u,o,l.le⟩
    refine lg c (i5 u) (lg c (F9 u u) (lg c (i5 u) (bt y (fun d B=>?_) (fun d B=>?_))))
    ·refine lg d (i5 u) (lg d (i5 u) (lg d (H2 u u) ?_))
     obtain⟨ak,al,am⟩:=ob B
     refine I3 (t:=C9) (wg u u d) u underlying51 E4 u u (f.mono (k.trans l.le)) al fun an ao aH ap aq=>?_
     obtain⟨rfl,aI⟩:=ap
     have ar:E9 _ an ao [V6 ak]:=aq
     refine lg d (y7 E4 u o (ar 0 _ u)) (lg d (i5 u) (lg d (a3S u u) (lg c (o0 u d u) (lv (o4 u c u) (i8 ?_)))))
     cases oi am
     exact qd ⟨x,u,o,l.le⟩
    iterate 7 refine lu d ?_
    refine lg c (J6 u d u) (lv (o4 u c u) (i8 ?_))
    cases oi B
    exact qd ⟨x,u,o,l.le⟩
   rintro _ aJ ⟨H,rfl,I,au⟩
   refine l4 (D4 ah u (fun aw C=>?_) (fun aw C=>?_))
   ·refine sr (lv (P2 u) (nq (l3 (j6 (g8 (g8 ?_))))))
    cases oi C
    cases U _ u
    refine j6 (g8 ?_)
    cases oi D
    refine g8 ?_
    cases oi m
    exact ey results63 ⟨H,u,I⟩
   refine j5 (x9 (qg (lv (A3 u u (B5 hi23 (b7.max f))) (mv u (i8 ?_)))))
   cases oi C
   exact qd ⟨_,u,H,u,I,(k.trans au)⟩
  rintro G _ S ax ⟨s,rfl,i,k⟩
  subst ax
  refine sr (lv (s7 u u) (ns (C1 u (c6 (by omega)) (w8 (g6 (g6 (l5 ?_)))))))
  cases oi D
  exact qd ⟨_,s,u,u,i,k⟩
 rintro _ aK ⟨s8,K9,rfl,rfl,az,aA⟩
 have m:=F6 m
 refine qr (mv u (lv (q7 underlying51 u (f.mono aA)) (lv (W5 u u) (av u (nq (l3 ?_))))))
 cases oi m
 exact ey results63 ⟨K9,u,az⟩

theorem b11 {q0:List (List Int)}{r:Bool}(hS:SH w K [] w K [])(d:b7 (G0 C9) K A a b q0)(hm:a3C F q0=some r):
  Calls prog 323 #[V3 A a b] w (R_b w K r):=by
 rw [a3C] at hm
 refine ci func323 u ntmps323 (sr (lv (P2 u) (P6 (mv u (lv (q7 (t:=(G0 C9)) underlying243 u d) (lv (r_m u) (nq ?_)))))))
 obtain⟨B,C,f⟩:=ob hm
 refine l6 (IE B w K [] K [(0,V3 A a b)] []) ?_ ?_
 ·refine j7 ?_
  obtain⟨ai,D,l⟩:=ob C
  refine qf (fun (m:Nat) (o:Unit)=>IV w K [] K [(0,V3 A a b),(5,V3 A a b),(6,V6 (q0.length:Int)),(7,V6 ((m:Nat):Int))] []) D ⟨K,u,hS,kr⟩ ?_ ?_
  ·rintro m o _ G aj hi23 H I ⟨q,rfl,c,i⟩
   refine sr (lv (s7 u u) (ns (C2 u (b8 (by omega)) (j5 (l4 (p9 (j7 (sr ?_))))))))
   obtain⟨ak,J,O⟩:=ob H
   refine li underlying243 a1i (d.mono i) J fun R S al T U=>?_
   obtain⟨V,W,X,rfl,Y⟩:=T
   have aa:E9 _ R S [V3 V W X]:=U
   refine lv (y7 a1i u c (aa 0 _ u)) (av u (nr (mv u ?_)))
   obtain⟨am,ab,ac⟩:=ob O
   refine lk c26 (a4W F c.enter0 Y ab) ?_
   rintro an ao ⟨s,rfl,x⟩
   have y:=(c.c0 x).t0
   refine lv (A4 u) (nq (D4 ac u (fun ad k=>?_) (fun ad k=>?_)))
   ·refine sr (lv (P2 u) (nq (l3 (j6 (g8 (g8 ?_))))))
    cases oi k
    cases I _ u
    refine j6 (g8 ?_)
    cases oi l
    refine g8 ?_
    cases oi f
    exact ey results323 ⟨s,u,y⟩
   refine j5 (x9 (qg (lv (A3 u u (B5 hi23 (b7.max d))) (mv u (i8 ?_)))))
   cases oi k
   exact qd ⟨_,u,s,u,y,(i.trans x.le)⟩
  rintro o _ G ae ⟨q,rfl,c,i⟩
  subst ae
  refine sr (lv (s7 u u) (ns (C1 u (c6 (by omega)) (w8 (g6 (g6 (l5 ?_)))))))
  cases oi l
  exact qd ⟨_,q,u,u,c,i⟩
 rintro _ ap ⟨s8,K9,rfl,rfl,ag,ah⟩
 have f:=F6 f
 refine qr (mv u (lv (q7 (t:=(G0 C9)) underlying243 u (d.mono ah)) (lv (W5 u u) (av u (nq (l3 ?_))))))
 cases oi f
 exact ey results323 ⟨K9,u,ag⟩

theorem b0L {q0:List (List Int)}{r:Bool}(hS:SH w K [] w K [])(f:b7 (G0 C9) K A a b q0)(hm:a27 F q0=some r):
  Calls prog 290 #[V3 A a b] w (R_b w K r):=by
 rw [a27] at hm
 refine ci func290 u ntmps290 (sr (lv (P2 u) (nr (mv u (lv (q7 (t:=(G0 C9)) underlying243 u f) (lv (F9 u u) (mv u (bt hm (fun c d=>?_) (fun c d=>?_)))))))))
 ·refine lg c (i5 u) ?_
  obtain⟨q,i,k⟩:=ob d
  refine A0 (wg u u c) u (z7 (vs:=[V3 A a b]) c6M u) (b11 F hS.enter0 f i) ?_
  rintro s x ⟨l,rfl,m⟩
  refine⟨_,u,?_⟩
  have o:=(hS.c0 m).t0
  refine lv (o0 u c u) (av u (nq (l3 ?_)))
  cases oi k
  exact ey results290 ⟨l,u,o⟩
 refine lu c (lu c (lv (J6 u c u) (av u (nq (l3 ?_)))))
 cases oi d
 exact ey results290 ⟨K,u,hS⟩

theorem b1V {q0:q9}{q1:q9}{r:Int}(hS:SH w K [] w K [])(aC:q0.length≤maxLen)(aD:q1.length≤maxLen)(hm:a0E F q0 q1=some r):
  Calls prog 171 #[sv q0,sv q1] w (R_i w K r):=by
 rw [a0E] at hm
 refine ci func171 u ntmps171 (sr (lv (N4 u) (ns (p9 ?_))))
 obtain⟨o3,h4,h5⟩:=ob hm
 refine l6 (IV w K [] K [(0,sv q0),(1,sv q1),(18,.bool o3)] []) ?_ ?_
 ·refine j3 (mv u ?_)
  obtain⟨ct,aH,aI⟩:=ob h4
  refine lk a9w (I1 F hS.enter0 aC aH) ?_
  rintro cu cv ⟨aJ,rfl,O⟩
  have R:=(hS.c0 O).t0
  refine lv (A4 u) (mv u (bt aI (fun o S=>?_) (fun o S=>?_)))
  ·refine lu o (lu o (lu o (lv (L8 u o u) (i8 ?_))))
   cases oi S
   exact qd ⟨aJ,u,R,O.le⟩
  refine lg o (i5 u) ?_
  obtain⟨cw,aK,aL⟩:=ob S
  refine A0 (wg u u o) u (z7 (vs:=[sv q1]) a9w u) (I1 F R.enter0 aD aK) ?_
  rintro cx cy ⟨aM,rfl,ag⟩
  refine⟨_,u,?_⟩
  have aN:=(R.c0 ag).t0
  refine lg o (A4 u) (lv (o4 u o u) (i8 ?_))
  cases oi aL
  exact qd ⟨aM,u,aN,(O.le.trans ag.le)⟩
 rintro _ w9 ⟨I,rfl,ah,cA⟩
 refine l4 (D4 h5 u (fun aO T=>?_) (fun aO T=>?_))
 ·refine sr (lv (x8 (v:=V6 (-1)) u) (nq (rr ?_)))
  cases oi T
  exact ey results171 ⟨I,u,ah,(by decide :i7 (-1))⟩
 refine j5 (qr (mv u (lv (I2 underlying9 u) (lv (y4 u u) ?_))))
 obtain⟨ai,aP,aQ⟩:=ob T
 refine b9T (t:=C9) wn u underlying51 E4 u u u aP ⟨u,M1⟩ ah fun b cs35 cB hmx39 hrow37 aR=>?_
 obtain⟨m40,hm41⟩: ∃m,m=ai.length:=⟨_,u⟩
 rw [←hm41] at hmx39
 rw [←hm41]
 refine av u (P6 (mv u (lv (a6A underlying51 u hm41) (lv (r_m u) (nq ?_)))))
 obtain⟨aj,aS,aT⟩:=ob aQ
 refine l6 (fun E' w'=>∃cs49 s,E'=[(0,sv q0),(1,sv q1),(5,V3 (some ⟨b,0,none⟩) m40 m40)]∧SH w K [] w' s [u9 b cs49 3]∧I9 I s∧D5 true C9 s cs49 aj∧m40=aj.length) ?_ ?_
 ·refine j7 ?_
  obtain⟨cC,aU,aV⟩:=ob aS
  refine qF (fun (x:Nat) (J:(List Int)) E' w'=>∃cs61 y,E'=[(0,sv q0),(1,sv q1),(5,V3 (some ⟨b,0,none⟩) m40 m40),(24,V6 (ai.length:Int)),(25,V6 ((x:Nat):Int))]∧SH w K [] w' y [u9 b cs61 3]∧I9 I y∧D5 true C9 y cs61 J∧m40=J.length) aU ⟨cs35,I,u,aR,kr,hrow37,hm41⟩ ?_ ?_
  ·rintro x J _ aW cD hi65 aX ⟨cs61,y,rfl,U,V,hrow62,hm63⟩
   refine sr (lv (s7 u u) (ns (C2 u (b8 (by omega)) (j5 (l4 (p9 (j7 (sr (mv u (av u (nq (j3 ?_))))))))))))
   refine mv u (mv u (mv u ?_))
   obtain⟨aY,W,aZ⟩:=ob aX
   obtain⟨cE,ba,bb⟩:=D5.at hrow62 W
   obtain⟨rfl,cF⟩:=ba
   have cG: ∀(j:Nat) (d:Value),[V6 aY][j]? =some d→cs61[((x:Nat):Int).toNat*C9.size+j]? =some d:=bb
   refine lv (L2 (t:=C9) underlying51 E4 u u hm63 W) (a3w (t:=C9) (v:=V6 ((x:Nat):Int)) (e:=((x:Nat):Int)) wn E4 u u ⟨u,(b2D hi65 (b9G hm41 hmx39))⟩ U hrow62 W fun cs76 cH hrow78 bc=>?_)
   have hm80:=hm63.trans (List.length_set (i:=((x:Nat):Int).toNat) (a:=((x:Nat):Int))).symm
   refine nb (qg (lv (A3 u u (B5 hi65 (b9G hm41 hmx39))) (mv u (i8 ?_))))
   cases oi aZ
   exact qd ⟨cs76,y,u,bc,V,hrow78,hm80⟩
  rintro J _ aW bd ⟨cs61,y,rfl,U,V,hrow62,hm63⟩
  subst bd
  refine sr (lv (s7 u u) (ns (C1 u (c6 (by omega)) (w8 (g6 (g6 (l5 ?_)))))))
  cases oi aV
  exact qd ⟨cs61,y,u,U,V,hrow62,hm63⟩
 rintro _ cI ⟨cs49,s,rfl,be,cJ,hrow50,hm51⟩
 refine qs (sr (lv (x8 (v:=V6 1) u) (nq ?_)))
 obtain⟨ak,bf,bg⟩:=ob aT
 refine l6 (fun E' w'=>∃cs89 D,E'=[(1,sv q1),(5,V3 (some ⟨b,0,none⟩) m40 m40)]∧SH w K [] w' D [u9 b cs89 3]∧I9 s D∧D5 true C9 D cs89 ak∧m40=ak.length) ?_ ?_
 ·refine j7 ?_
  obtain⟨cK,bh,bi⟩:=ob bf
  refine qw (fun (l:Int×(List Int)) E' w'=>∃cs101 q,E'=[(0,sv q0),(1,sv q1),(5,V3 (some ⟨b,0,none⟩) m40 m40),(7,V6 l.1)]∧SH w K [] w' q [u9 b cs101 3]∧I9 s q∧i7 l.1∧D5 true C9 q cs101 l.2∧m40=l.2.length) bh ⟨cs49,s,u,be,kr,(by decide :i7 1),hrow50,hm51⟩ ?_
  rintro l _ cL cM bj bk ⟨cs101,q,rfl,X,al,bl,hrow102,hm103⟩
  refine p9 (sr (mv u (mv u (lv (I2 underlying9 u) (lv (W5 u u) (nq (D4 bj u (fun bm Y=>?_) (fun bm Y=>?_))))))))
  ·refine j5 (qs (j7 (sr (mv u ?_))))
   obtain⟨bn,am,bo⟩:=ob Y
   obtain⟨cN,bp,bq⟩:=D5.at hrow102 am
   obtain⟨rfl,br⟩:=bp
   have bs: ∀(j:Nat) (d:Value),[V6 bn][j]? =some d→cs101[(0:Int).toNat*C9.size+j]? =some d:=bq
   refine lv (L2 (t:=C9) underlying51 E4 u u hm103 am) (lv (a1F E4 u u (bs 0 _ u) (X.hasObj (.head _))) (av u (nr (mv u (mv u ?_)))))
   obtain⟨bu,aa,bv⟩:=ob bo
   obtain⟨cO,bx,bz⟩:=D5.at hrow102 aa
   obtain⟨rfl,cP⟩:=bx
   have cQ: ∀(j:Nat) (d:Value),[V6 bu][j]? =some d→cs101[(0:Int).toNat*C9.size+j]? =some d:=bz
   refine lv (L2 (t:=C9) underlying51 E4 u u hm103 aa) (a3w (t:=C9) (v:=V6 l.1) (e:=l.1) wn E4 u u ⟨u,bl⟩ X hrow102 aa fun cs125 cR hrow127 bA=>?_)
   have hm129:=hm103.trans (List.length_set (i:=(0:Int).toNat) (a:=l.1)).symm
   refine nr (lv (x8 (v:=V6 1) u) (nq ?_))
   obtain⟨an,bB,bC⟩:=ob bv
   refine l6 (fun E' w'=>∃cs137 G,E'=[(0,sv q0),(1,sv q1),(5,V3 (some ⟨b,0,none⟩) m40 m40),(7,V6 l.1)]∧SH w K [] w' G [u9 b cs137 3]∧I9 q G∧D5 true C9 G cs137 an∧m40=an.length) ?_ ?_
   ·refine j7 ?_
    obtain⟨cS,bD,bE⟩:=ob bB
    refine qw (fun (f:Int×Int×(List Int)) E' w'=>∃cs150 H,E'=[(0,sv q0),(1,sv q1),(5,V3 (some ⟨b,0,none⟩) m40 m40),(7,V6 l.1),(8,V6 f.1),(9,V6 f.2.1)]∧SH w K [] w' H [u9 b cs150 3]∧I9 q H∧i7 f.1∧i7 f.2.1∧D5 true C9 H cs150 f.2.2∧m40=f.2.2.length) bD ⟨cs125,q,u,bA,kr,br,(by decide :i7 1),hrow127,hm129⟩ ?_
    rintro f _ cT cU bF bG ⟨cs150,H,rfl,ao,ap,bH,cV,hrow151,hm152⟩
    refine p9 (sr (mv u (mv u (lv (I2 underlying9 u) (lv (W5 u u) (nq (D4 bF u (fun bI ab=>?_) (fun bI ab=>?_))))))))
    ·refine j5 (qs (j7 (sr (mv u (av u (ns (p9 (E1 mixed (by kernel_rfl) ao (km u ?_)))))))))
     refine km u (kv (H2 u u) ?_)
     obtain⟨cW,bJ,bK⟩:=ob ab
     refine kv (L9 underlying9 u u bJ) (km u (km u (kv (H2 u u) ?_)))
     obtain⟨cX,bL,bM⟩:=ob bK
     refine kv (L9 underlying9 u u bL) (kv (a74 u u) (B7 ?_))
     rintro cY ⟨ac,aq,B⟩
     refine l4 ?_
     obtain⟨c,bN,bO⟩:=ob bM
     refine l6 (IW w K [] ac [(0,sv q0),(1,sv q1),(5,V3 (some ⟨b,0,none⟩) m40 m40),(7,V6 l.1),(9,V6 f.2.1),(10,V6 c)] [u9 b cs150 3] (i7 c)) ?_ ?_
     ·refine D4 bN u (fun bP ad=>?_) (fun bP ad=>?_)
      ·refine j3 (mv u (lv (y4 u u) (av u (i8 ?_))))
       cases oi ad
       exact qd ⟨ac,u,aq,kr,(s6 _)⟩
      refine j5 ?_
      cases oi ad
      exact qd ⟨ac,u,aq,kr,bH⟩
     rintro _ cZ ⟨ar,rfl,au,C,bQ⟩
     refine qr (mv u (mv u ?_))
     obtain⟨bR,aw,bS⟩:=ob bO
     obtain⟨da,bT,bU⟩:=D5.at (D5.mono (B.trans C) hrow151) aw
     obtain⟨rfl,bV⟩:=bT
     have bW: ∀(j:Nat) (d:Value),[V6 bR][j]? =some d→cs150[f.2.1.toNat*C9.size+j]? =some d:=bU
     refine lv (L2 (t:=C9) underlying51 E4 u u hm152 aw) (lv (a1F E4 u u (bW 0 _ u) (au.hasObj (.head _))) (av u (nq ?_)))
     have ae:=au.drew
     refine wh1 (fun w'=>G8 ar w') (fun w'=>A9 b cs150 w') 16 [(6,7),(6,15),(6,16),(7,14),(7,15),(7,16),(12,13),(12,15),(12,16),(13,14),(13,15),(13,16),(14,15),(14,16),(15,16)] mixed (ae.hasK kr) (fun _=>ae.hasObj (.head _)) (gt (i5 u) (gt (i5 u) (gt (i5 u) (gt (i5 u) (gt (i5 u) ?_)))))
     obtain⟨k,ax,bX⟩:=ob bS
     obtain⟨db,bY,bZ⟩:=D5.at (D5.mono (B.trans C) hrow151) ax
     obtain⟨rfl,dc⟩:=bY
     have ca: ∀(j:Nat) (d:Value),[V6 k][j]? =some d→cs150[f.2.1.toNat*C9.size+j]? =some d:=bZ
     refine gt (L2 (t:=C9) underlying51 E4 u u hm152 ax) (gf (fun _ h=>(a1F E4 u u (ca 0 _ u) h)) (gt (y4 u u) (gt (i5 u) (gt (i5 u) (gt (H2 u u) ?_)))))
     obtain⟨A,ay,cb⟩:=ob bX
     obtain⟨dd,cc,cd⟩:=D5.at (D5.mono (B.trans C) hrow151) ay
     obtain⟨rfl,de⟩:=cc
     have ce: ∀(j:Nat) (d:Value),[V6 A][j]? =some d→cs150[(A1 (f.2.1-(1:Int))).toNat*C9.size+j]? =some d:=cd
     refine gt (L2 (t:=C9) underlying51 E4 u u hm152 ay) (gf (fun _ h=>(a1F E4 u u (ce 0 _ u) h)) (gt (y4 u u) (gt (c3J u u u) ?_)))
     obtain⟨cf,af,cg⟩:=ob cb
     obtain⟨df,ch,cj⟩:=D5.at (D5.mono (B.trans C) hrow151) af
     obtain⟨rfl,dg⟩:=ch
     have dh: ∀(j:Nat) (d:Value),[V6 cf][j]? =some d→cs150[f.2.1.toNat*C9.size+j]? =some d:=cj
     refine gt (L2 (t:=C9) underlying51 E4 u u hm152 af) (gn (a3w (t:=C9) (v:=V6 (if (A1 (A+(1:Int)))<(if (A1 (k+(1:Int)))<c then (A1 (k+(1:Int))) else c) then (A1 (A+(1:Int))) else (if (A1 (k+(1:Int)))<c then (A1 (k+(1:Int))) else c))) (e:=(if (A1 (A+(1:Int)))<(if (A1 (k+(1:Int)))<c then (A1 (k+(1:Int))) else c) then (A1 (A+(1:Int))) else (if (A1 (k+(1:Int)))<c then (A1 (k+(1:Int))) else c))) wn E4 u u ⟨u,(b9E (b9E bQ (s6 _)) (s6 _))⟩ ae (D5.mono (B.trans C) hrow151) af fun cs212 di hrow214 az=>?_))
     have hm216:=hm152.trans (List.length_set (i:=f.2.1.toNat) (a:=(if (A1 (A+(1:Int)))<(if (A1 (k+(1:Int)))<c then (A1 (k+(1:Int))) else c) then (A1 (A+(1:Int))) else (if (A1 (k+(1:Int)))<c then (A1 (k+(1:Int))) else c)))).symm
     refine i8 (qh (az.hasK kr) (fun h=>nomatch h) (gd' (x9 (l4 (j3 (mv u (lv (y4 u u) (av u (i8 ?_)))))))))
     cases oi cg
     exact qd ⟨_,u,cs212,ar,u,az,((ap.trans B).trans C),bV,(s6 _),hrow214,hm216⟩
    refine w8 (g6 (g6 ?_))
    cases oi ab
    cases bG _ u
    refine l5 ?_
    cases oi bE
    exact qd ⟨cs150,H,u,ao,ap,hrow151,hm152⟩
   rintro _ dj ⟨cs137,G,rfl,ck,cl,hrow138,hm139⟩
   refine x9 (l4 (j3 (mv u (lv (y4 u u) (av u (i8 ?_))))))
   cases oi bC
   exact qd ⟨_,u,cs137,G,u,ck,(al.trans cl),(s6 _),hrow138,hm139⟩
  refine w8 (g6 (g6 ?_))
  cases oi Y
  cases bk _ u
  refine l5 ?_
  cases oi bi
  exact qd ⟨cs101,q,u,X,al,hrow102,hm103⟩
 rintro _ dk ⟨cs89,D,rfl,aA,dl,hrow90,hm91⟩
 refine qr (mv u (mv u (lv (I2 underlying9 u) ?_)))
 obtain⟨cm,aB,cn⟩:=ob bg
 obtain⟨dm,cp,cq⟩:=D5.at hrow90 aB
 obtain⟨rfl,cr⟩:=cp
 have cs: ∀(j:Nat) (d:Value),[V6 cm][j]? =some d→cs89[(q1.length:Int).toNat*C9.size+j]? =some d:=cq
 refine lv (L2 (t:=C9) underlying51 E4 u u hm91 aB) (lv (a1F E4 u u (cs 0 _ u) (aA.hasObj (.head _))) (av u (nq (l3 ?_))))
 cases oi cn
 exact ey results171 ⟨D,u,aA.s,cr⟩

theorem b10 (F:Nat): ∀{w:World} {K:F0} {q0:q9} {q1:q9} {r:Bool} (hS:SH w K [] w K []) (i:q0.length≤maxLen) (k:q1.length≤maxLen) (hm:O2 F q0 q1=some r),
  Calls prog 242 #[sv q0,sv q1] w (R_b w K r):=by
 induction F with
 | zero=>intros;rename_i hm;rw [O2] at hm;cases hm
 | succ F ih=>
  intro w K q0 q1 r hS i k hm
  rw [O2] at hm
  refine ci func242 u ntmps242 (sr (lv (P2 u) (ns (j7 (sr (mv u (lv (M3 (r:=([]:q9)) u u) (av u (nq ?_)))))))))
  refine P1 u (fun o=>?_) (fun o=>?_)
  ·have q:=Z8 o hm
   refine sr (mv u (lv (M3 (r:=([]:q9)) u u) (av u (nq (l3 (j6 (g8 ?_)))))))
   cases oi q
   exact ey results242 ⟨K,u,hS⟩
  have q:=Z7 o hm
  refine sr (mv u ?_)
  obtain⟨x5,T,U⟩:=ob q
  refine lv (L9 underlying9 u u T) (lv (a9e (b:=(42:UInt8)) u u) (av u (nq (D4 U u (fun V s=>?_) (fun V s=>?_)))))
  ·refine p9 ?_
   obtain⟨W,X,Y⟩:=ob s
   refine l6 (IV w K [] K [(4,.bool W)] []) ?_ ?_
   ·refine j3 (mv u ?_)
    obtain⟨aM,D,aa⟩:=ob X
    refine lv (a0r underlying9 u u D) (mv u ?_)
    obtain⟨aN,ab,ac⟩:=ob aa
    refine lk b6n (ih hS.enter0 (a1c i D) k ab) ?_
    rintro aO aP ⟨G,rfl,l⟩
    have m:=(hS.c0 l).t0
    refine mv u (bt ac (fun a x=>?_) (fun a x=>?_))
    ·refine lu a (lu a (lu a (A2 (uu u u) u (A2 (uu u u) u (A2 (uu u u) u (A2 (uu u u) u (lu a (lv (L8 u a u) (av u ?_)))))))))
     refine i8 ?_
     cases oi x
     exact qd ⟨G,u,m,l.le⟩
    refine lg a (i5 u) (lg a (a1V (r:=([]:q9)) u u) (lg a (i5 u) (bt x (fun c y=>?_) (fun c y=>?_))))
    ·refine lg c (i5 u) (lg c (i5 u) ?_)
     obtain⟨ad,H,ae⟩:=ob y
     refine lg c (a0r underlying9 u u H) ?_
     obtain⟨aQ,af,ag⟩:=ob ae
     refine A0 (wg u u c) u (z7 (vs:=[sv q0,sv ad]) b6n u) (ih m.enter0 i (a1c k H) af) ?_
     rintro aR aS ⟨ah,rfl,I⟩
     refine⟨_,u,?_⟩
     have ai:=(m.c0 I).t0
     refine lg a (o0 u c u) (lv (o4 u a u) (av u (i8 ?_)))
     cases oi ag
     exact qd ⟨ah,u,ai,(l.le.trans I.le)⟩
    refine lu c (lu c (lu c (lu c (lg a (J6 u c u) (lv (o4 u a u) (av u (i8 ?_)))))))
    cases oi y
    exact qd ⟨G,u,m,l.le⟩
   rintro _ aT ⟨aj,rfl,ak,aU⟩
   refine l4 (l3 (j6 (g8 ?_)))
   cases oi Y
   exact ey results242 ⟨aj,u,ak⟩
  refine sr (mv u (lv (M3 (r:=([]:q9)) u u) (av u (nq (D4 s u (fun al A=>?_) (fun al A=>?_))))))
  ·refine sr (lv (P2 u) (nq (l3 (j6 (g8 ?_)))))
   cases oi A
   exact ey results242 ⟨K,u,hS⟩
  refine j5 (x9 (qs (E1 mixed (by kernel_rfl) hS (km u ?_))))
  obtain⟨aV,am,an⟩:=ob A
  refine kv (L9 underlying9 u u am) (kv (a9e (b:=(63:UInt8)) u u) (km u (bt an (fun d B=>?_) (fun d B=>?_))))
  ·iterate 5 refine kn d ?_
   refine kv (L8 u d u) (km u (kg u (i5 u) ?_))
   obtain⟨aW,J,ao⟩:=ob B
   refine kg u (a0r underlying9 u u J) (kg u (i5 u) ?_)
   obtain⟨aX,O,ap⟩:=ob ao
   refine kg u (a0r underlying9 u u O) ?_
   obtain⟨aY,aq,ar⟩:=ob ap
   refine kcg u b6n (fun _ _ au aZ=>ih au.enter0 (a1c i J) (a1c k O) aq) (kv (o0 u u u) (kv (x8 u) (B7 ?_)))
   rintro ba ⟨aw,ax,bb⟩
   refine l4 (l3 ?_)
   cases oi ar
   exact ey results242 ⟨aw,u,ax⟩
  refine kg d (i5 u) ?_
  obtain⟨bc,ay,az⟩:=ob B
  refine kg d (L9 underlying9 u u ay) (kg d (i5 u) ?_)
  obtain⟨bd,aA,aB⟩:=ob az
  refine kg d (L9 underlying9 u u aA) (kg d (a9e u u) (kv (o4 u d u) (km u (bt aB (fun f C=>?_) (fun f C=>?_)))))
  ·refine kg f (i5 u) ?_
   obtain⟨be,R,aC⟩:=ob C
   refine kg f (a0r underlying9 u u R) (kg f (i5 u) ?_)
   obtain⟨bf,S,aD⟩:=ob aC
   refine kg f (a0r underlying9 u u S) ?_
   obtain⟨bg,aE,aF⟩:=ob aD
   refine kcg f b6n (fun _ _ aG bh=>ih aG.enter0 (a1c i R) (a1c k S) aE) (kv (o0 u f u) (kv (x8 u) (B7 ?_)))
   rintro bi ⟨aH,aI,bj⟩
   refine l4 (l3 ?_)
   cases oi aF
   exact ey results242 ⟨aH,u,aI⟩
  iterate 5 refine kn f ?_
  refine kv (J6 u f u) (kv (x8 u) (B7 ?_))
  rintro bk ⟨aJ,aK,bl⟩
  refine l4 (l3 ?_)
  cases oi C
  exact ey results242 ⟨aJ,u,aK⟩

theorem b1U {q0:q9}{q1:q9}{r:Bool}(hS:SH w K [] w K [])(k:q0.length≤maxLen)(l:q1.length≤maxLen)(hm:a1Z F q0 q1=some r):
  Calls prog 172 #[sv q0,sv q1] w (R_b w K r):=by
 rw [a1Z] at hm
 refine ci func172 u ntmps172 (sr (lv (P2 u) (nr (mv u ?_))))
 obtain⟨J,m,o⟩:=ob hm
 refine lk c4h (a7M F hS.enter0 k m) ?_
 rintro O R ⟨q,rfl,s⟩
 have c:=(hS.c0 s).t0
 refine mv u (bt o (fun b d=>?_) (fun b d=>?_))
 ·refine lg b (i5 u) ?_
  obtain⟨S,x,y⟩:=ob d
  refine A0 (wg u u b) u (z7 (vs:=[sv q1]) a9w u) (I1 F c.enter0 l x) ?_
  rintro T U ⟨A,rfl,B⟩
  refine⟨_,u,?_⟩
  have f:=(c.c0 B).t0
  refine lv (o0 u b u) (mv u (bt y (fun a i=>?_) (fun a i=>?_)))
  ·refine lg a (i5 u) (lg a (i5 u) ?_)
   obtain⟨V,C,D⟩:=ob i
   refine A0 (wg u u a) u (z7 (vs:=[sv q0,sv q1]) b6n u) (b10 F f.enter0 k l C) ?_
   rintro W X ⟨G,rfl,H⟩
   refine⟨_,u,?_⟩
   have I:=(f.c0 H).t0
   refine lv (o0 u a u) (av u (nq (l3 ?_)))
   cases oi D
   exact ey results172 ⟨G,u,I⟩
  refine lu a (lu a (lu a (lv (J6 u a u) (av u (nq (l3 ?_))))))
  cases oi i
  exact ey results172 ⟨A,u,f⟩
 refine lu b (lu b (lv (J6 u b u) (mv u (lu u (lu u (lu u (lv (J6 u u u) (av u (nq ?_)))))))))
 refine l3 ?_
 cases oi d
 exact ey results172 ⟨q,u,c⟩

theorem b4e {q0:y5}{q1:q9}{r:Int}(hS:SH w K [] w K [])(an:i7 q0.Id)(ao:b7 K5 K A a b q0.Fields)(l:b7 M5 K B c d q0.Nums)(ap:q1.length≤maxLen)(hm:a3G F q0 q1=some r):
  Calls prog 126 #[.agg #[V6 q0.Id,V3 A a b,V3 B c d],sv q1] w (R_i w K r):=by
 rw [a3G] at hm
 refine ci func126 u ntmps126 (sr (bx u hS fun m aq H=>?_))
 have I:SH _ _ _ _ _ [u9 m [V6 q0.Id,V3 A a b,V3 B c d] 67]:=H
 refine lv (N4 u) (P6 (lv (N4 u) (nq ?_)))
 obtain⟨J,O,k⟩:=ob hm
 refine l6 (IE J w K [] K [] []) ?_ ?_
 ·refine j7 ?_
  obtain⟨ar,R,y⟩:=ob O
  refine qw (fun (o:Int)=>IW w K [] K [(1,sv q1),(2,pt m),(5,V6 o)] [u9 m [V6 q0.Id,V3 A a b,V3 B c d] 67] (i7 o)) R ⟨K,u,I,kr,M1⟩ ?_
  rintro o _ au aw S C ⟨q,rfl,f,i,ax⟩
  refine p9 (sr (mv u (fl a1a u a6Y m0 f u (lv (q7 underlying65 u (l.mono i)) (lv (s7 u u) (nq (D4 S u (fun T s=>?_) (fun T s=>?_))))))))
  ·refine j5 (qs (j7 (sr (fl a1a u a6Y m0 f u (mv u ?_)))))
   obtain⟨D,U,V⟩:=ob s
   refine li underlying65 V4 (l.mono i) U fun W X ay Y aa=>?_
   obtain⟨rfl,az,aA⟩:=Y
   have ab:E9 _ W X [sv D.Name,V6 D.Num]:=aa
   refine fa a5O u (lv (y7 H3 u f (ab 0 _ u)) (mv u (lv (M3 u u) (nq (D4 V u (fun ac x=>?_) (fun ac x=>?_))))))
   ·refine sr (fl a1a u a6Y m0 f u (mv u ?_))
    obtain⟨G,ad,ae⟩:=ob x
    refine li underlying65 V4 (l.mono i) ad fun af ag aB ah ai=>?_
    obtain⟨rfl,aC,aj⟩:=ah
    have ak:E9 _ af ag [sv G.Name,V6 G.Num]:=ai
    refine fa b2s u (lv (y7 E4 u f (ak 1 _ u)) (av u (nq (l3 (j6 (g8 (g8 ?_)))))))
    cases oi ae
    cases C _ u
    refine j6 (g8 ?_)
    cases oi y
    refine g8 ?_
    cases oi k
    exact ey results126 ⟨q,u,f.s,aj⟩
   refine j5 (x9 (l4 (j3 (mv u (lv (y4 u u) (av u (i8 ?_)))))))
   cases oi x
   exact qd ⟨_,u,q,u,f,i,(s6 _)⟩
  refine w8 (g6 (g6 ?_))
  cases oi s
  cases C _ u
  refine l5 ?_
  cases oi y
  exact H9 ⟨_,q,u,u,f.s,i⟩ trivial
 rintro _ aD ⟨aE,al,rfl,rfl,am,aF⟩
 have k:=F6 k
 refine qr (lv (x8 (v:=V6 (-1)) u) (nq (l3 ?_)))
 cases oi k
 exact ey results126 ⟨al,u,am,(by decide :i7 (-1))⟩
end Go.Proofs.YtepcfgnicnibnaaGreatDoor
