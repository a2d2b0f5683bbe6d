/-
 Walks of the functions. Printed by gen.py.
-/
import Derived.Test.YtpdfkjjmcnhakaaGreatDoorFacts
set_option linter.unusedVariables false
set_option linter.unusedSectionVars false
set_option maxRecDepth 100000
namespace Go.Proofs.YtpdfkjjmcnhakaaGreatDoor
set_option maxHeartbeats 4000000
open Go Go.Fk Go.RowKit Tryz
variable (F:Nat){w:World}{K:C7}{Z:List Nat}{g1 g2 g3:Nat}{A B C D G H I J O R S T:Option Addr}{a b c d f i k l m n o p q s v x y aa ab ac ad ae af ag:Nat}
variable [dr:Dr]

theorem z6 {q0:Int}{q1:Int}{q2:Int}{r:Bool}(hS:SH w K [] w K [])(c:j5 q0)(d:j5 q1)(f:j5 q2)(hm:u5 F q0 q1 q2=some r):
  Calls prog 83 #[V6 q0,V6 q1,V6 q2] w (R_b w K r):=by
 rw [u5] at hm
 refine ci func83 u ntmps83 (sr (lv (M7 u) (nr (mv u (mv u (lv (a2y u u) (mv u (bt hm (fun a b=>?_) (fun a b=>?_)))))))))
 ·refine lg a (i4 u) (lg a (i4 u) (lg a (U4 u u) (lv (q8 u a u) (av u (nq (l7 ?_))))))
  cases oi b
  exact ey results83 ⟨K,u,hS⟩
 refine lu a (lu a (lu a (lv (X8 u a u) (av u (nq (l7 ?_))))))
 cases oi b
 exact ey results83 ⟨K,u,hS⟩

theorem a0l {q0:UInt8}{r:Bool}(hS:SH w K [] w K [])(hm:J0 F q0=some r):
  Calls prog 94 #[iv8 q0] w (R_b w K r):=by
 rw [J0] at hm
 refine ci func94 u ntmps94 (sr (lv (M7 u) (nr (mv u (lv (a4w (b:=(97:UInt8)) u u) (mv u (bt hm (fun c i=>?_) (fun c i=>?_))))))))
 ·refine lg c (i4 u) (lg c (a4x (b:=(122:UInt8)) u u) (lv (q8 u c u) (mv u (bt i (fun a k=>?_) (fun a k=>?_)))))
  ·refine lu a (lu a (lu a (D4 (uu u u) u (D4 (uu u u) u (lu a (lv (L1 u a u) (av u (nq (l7 ?_)))))))))
   cases oi k
   exact ey results94 ⟨K,u,hS⟩
  refine lg a (i4 u) (lg a (a4w (b:=(48:UInt8)) u u) (lg a (i4 u) (bt k (fun d l=>?_) (fun d l=>?_))))
  ·refine lg d (i4 u) (lg d (a4x (b:=(57:UInt8)) u u) (lg a (q8 u d u) (lv (m9 u a u) (av u (nq (l7 ?_))))))
   cases oi l
   exact ey results94 ⟨K,u,hS⟩
  refine lu d (lu d (lg a (X8 u d u) (lv (m9 u a u) (av u (nq (l7 ?_))))))
  cases oi l
  exact ey results94 ⟨K,u,hS⟩
 refine lu c (lu c (lv (X8 u c u) (mv u (lg u (i4 u) (lg u (a4w (b:=(48:UInt8)) u u) (lg u (i4 u) (bt i (fun f m=>?_) (fun f m=>?_))))))))
 ·refine lg f (i4 u) (lg f (a4x (b:=(57:UInt8)) u u) (lg u (q8 u f u) (lv (m9 u u u) (av u (nq (l7 ?_))))))
  cases oi m
  exact ey results94 ⟨K,u,hS⟩
 refine lu f (lu f (lg u (X8 u f u) (lv (m9 u u u) (av u (nq (l7 ?_))))))
 cases oi m
 exact ey results94 ⟨K,u,hS⟩

theorem D2 {q0:l3}{r:Bool}(hS:SH w K [] w K [])(f:q0.length≤maxLen)(hm:C0 F q0=some r):
  Calls prog 48 #[sv q0] w (R_b w K r):=by
 rw [C0] at hm
 refine ci func48 u ntmps48 (sr (lv (M7 u) (Q9 (mv u (lv (F6 underlying9 u) (lv (r_m u) (nq ?_)))))))
 obtain⟨y,A,a⟩:=ob hm
 refine j9 (IE y w K [] K [(0,sv q0)] []) ?_ ?_
 ·refine i7 ?_
  obtain⟨Y,B,i⟩:=ob A
  refine qf (fun (k:Nat) (l:Unit)=>IV w K [] K [(0,sv q0),(5,V6 (q0.length:Int)),(6,V6 ((k:Nat):Int))] []) B ⟨K,u,hS,kr⟩ ?_ ?_
  ·rintro k l _ C aa hi21 D G ⟨m,rfl,b,c⟩
   refine sr (lv (o4 u u) (ns (y5 u (b8 (by omega)) (i8 (l4 (n9 (i7 (sr (mv u (av u (nr (mv u ?_))))))))))))
   refine mv u ?_
   obtain⟨ab,H,I⟩:=ob D
   refine lv (I7 underlying9 u u H) ?_
   obtain⟨ac,J,O⟩:=ob I
   refine lk b61 (a0l F b.enter0 J) ?_
   rintro ad ae ⟨o,rfl,q⟩
   have s:=(b.c0 q).t0
   refine lv (y3 u) (nq (D0 O u (fun R d=>?_) (fun R d=>?_)))
   ·refine sr (lv (M7 u) (nq (l7 (j4 (g6 (g6 ?_))))))
    cases oi d
    cases G _ u
    refine j4 (g6 ?_)
    cases oi i
    refine g6 ?_
    cases oi a
    exact ey results48 ⟨o,u,s⟩
   refine i8 (q7 (qg (lv (u3 u u (x9 hi21 f)) (mv u (i5 ?_)))))
   cases oi d
   exact qd ⟨_,u,o,u,s,(c.trans q.le)⟩
  rintro l _ C S ⟨m,rfl,b,c⟩
  subst S
  refine sr (lv (o4 u u) (ns (y4 u (c6 (by omega)) (p9 (c9 (c9 (j7 ?_)))))))
  cases oi i
  exact qd ⟨_,m,u,u,b,c⟩
 rintro _ w9 ⟨s5,K6,rfl,rfl,x,ai⟩
 have a:=D9 a
 refine qr (mv u (lv (F6 underlying9 u) ?_))
 obtain⟨aj,T,U⟩:=ob a
 refine lk a19 (z6 F x.enter0 (a2L f) (by decide :j5 1) (by decide :j5 12) T) ?_
 rintro ak al ⟨V,rfl,W⟩
 have X:=(x.c0 W).t0
 refine av u (nq (l7 ?_))
 cases oi U
 exact ey results48 ⟨V,u,X⟩

theorem a4Y {q0:List l3}{r:Bool}(hS:SH w K [] w K [])(l:b7 B3 K A a b q0)(hm:O1 F q0=some r):
  Calls prog 82 #[V3 A a b] w (R_b w K r):=by
 rw [O1] at hm
 refine ci func82 u ntmps82 (sr (lv (M7 u) (Q9 (mv u (lv (p7 underlying22 u l) (lv (r_m u) (nq ?_)))))))
 obtain⟨J,O,m⟩:=ob hm
 refine j9 (IE J w K [] K [] []) ?_ ?_
 ·refine i7 ?_
  obtain⟨aA,R,D⟩:=ob O
  refine qf (fun (q:Nat) (G:Unit)=>IV w K [] K [(0,V3 A a b),(5,V3 A a b),(6,V6 (q0.length:Int)),(7,V6 ((q:Nat):Int))] []) R ⟨K,u,hS,kr⟩ ?_ ?_
  ·rintro q G _ S aB hi23 T U ⟨s,rfl,f,i⟩
   refine sr (lv (o4 u u) (ns (y5 u (b8 (by omega)) (i8 (l4 (n9 (i7 (sr (mv u ?_)))))))))
   obtain⟨V,W,X⟩:=ob T
   refine li underlying22 D8 (l.mono i) W fun Y aa aC ab ac=>?_
   obtain⟨rfl,ad⟩:=ab
   have ae:D7 _ Y aa [sv V]:=ac
   refine lv (z2 D8 u f (ae 0 _ u)) (av u (av u (ns ?_)))
   obtain⟨af,ag,ah⟩:=ob X
   refine j9 (IV w K [] s [(0,V3 A a b),(5,V3 A a b),(6,V6 (q0.length:Int)),(7,V6 ((q:Nat):Int)),(27,.bool af)] []) ?_ ?_
   ·refine j3 (mv u ?_)
    obtain⟨aD,ai,aj⟩:=ob ag
    refine lk a5l (D2 F f.enter0 ad ai) ?_
    rintro aE aF ⟨x,rfl,k⟩
    have o:=(f.c0 k).t0
    refine lv (y3 u) (mv u (bt aj (fun c y=>?_) (fun c y=>?_)))
    ·refine lu c (lu c (lu c (D4 (uu u u) u (D4 (uu u u) u (D4 (uu u u) u (D4 (uu u u) u (D4 (uu u u) u (D4 (uu u u) u (D4 (uu u u) u ?_)))))))))
     refine lu c (lv (L1 u c u) (i5 ?_))
     cases oi y
     exact qd ⟨x,u,o,k.le⟩
    refine lg c (i4 u) (lg c (E9 u u) (lg c (i4 u) (bt y (fun d B=>?_) (fun d B=>?_))))
    ·refine lg d (i4 u) (lg d (i4 u) (lg d (I8 u u) ?_))
     obtain⟨ak,al,am⟩:=ob B
     refine Q8 (t:=B3) (wg u u d) u underlying22 D8 u u (l.mono (i.trans k.le)) al fun an ao aG ap aq=>?_
     obtain⟨rfl,aH⟩:=ap
     have ar:D7 _ an ao [sv ak]:=aq
     refine lg d (z2 D8 u o (ar 0 _ u)) (lg d (i4 u) (lg d (b0Q u u) (lg c (q8 u d u) (lv (m9 u c u) (i5 ?_)))))
     cases oi am
     exact qd ⟨x,u,o,k.le⟩
    iterate 7 refine lu d ?_
    refine lg c (X8 u d u) (lv (m9 u c u) (i5 ?_))
    cases oi B
    exact qd ⟨x,u,o,k.le⟩
   rintro _ aI ⟨H,rfl,I,au⟩
   refine l4 (D0 ah u (fun aw C=>?_) (fun aw C=>?_))
   ·refine sr (lv (M7 u) (nq (l7 (j4 (g6 (g6 ?_))))))
    cases oi C
    cases U _ u
    refine j4 (g6 ?_)
    cases oi D
    refine g6 ?_
    cases oi m
    exact ey results82 ⟨H,u,I⟩
   refine i8 (q7 (qg (lv (u3 u u (x9 hi23 (b7.max l))) (mv u (i5 ?_)))))
   cases oi C
   exact qd ⟨_,u,H,u,I,(i.trans au)⟩
  rintro G _ S ax ⟨s,rfl,f,i⟩
  subst ax
  refine sr (lv (o4 u u) (ns (y4 u (c6 (by omega)) (p9 (c9 (c9 (j7 ?_)))))))
  cases oi D
  exact I6 ⟨_,s,u,u,f,i⟩ trivial
 rintro _ aJ ⟨s8,K9,rfl,rfl,az,aL⟩
 have m:=D9 m
 refine qr (lv (r_t u) (nq (l7 ?_)))
 cases oi m
 exact ey results82 ⟨K9,u,az⟩

theorem a2V {q0:l3}{q1:l3}{r:Bool}(hS:SH w K [] w K [])(f:q0.length≤maxLen)(i:q1.length≤maxLen)(hm:L9 F q0 q1=some r):
  Calls prog 176 #[sv q0,sv q1] w (R_b w K r):=by
 rw [L9] at hm
 refine ci func176 u ntmps176 (sr (lv (M7 u) (nr (mv u (lv (F6 underlying9 u) (mv u (lv (F6 underlying9 u) (lv (a2y u u) (mv u ?_)))))))))
 refine bt hm (fun a b=>?_) (fun a b=>?_)
 ·refine lg a (i4 u) (lg a (i4 u) (lg a (F6 underlying9 u) (lg a (i4 u) (lg a (F6 underlying9 u) (lg a (I8 u u) ?_)))))
  obtain⟨k,c,d⟩:=ob b
  refine lg a (a1U underlying9 u u c) (lg a (i4 u) (lg a (J4 u u) (lv (q8 u a u) (av u (nq (l7 ?_))))))
  cases oi d
  exact ey results176 ⟨K,u,hS⟩
 iterate 9 refine lu a ?_
 refine lv (X8 u a u) (av u (nq (l7 ?_)))
 cases oi b
 exact ey results176 ⟨K,u,hS⟩

theorem a4r {q0:l3}{q1:l3}{r:Bool}(hS:SH w K [] w K [])(a:q0.length≤maxLen)(b:q1.length≤maxLen)(hm:M5 F q0 q1=some r):
  Calls prog 131 #[sv q0,sv q1] w (R_b w K r):=by
 rw [M5] at hm
 refine ci func131 u ntmps131 (sr (lv (M7 u) (nr (mv u (mv u ?_)))))
 obtain⟨l,c,d⟩:=ob hm
 refine lk b9C (a2V F hS.enter0 a b c) ?_
 rintro m o ⟨f,rfl,i⟩
 have k:=(hS.c0 i).t0
 refine av u (nq (l7 ?_))
 cases oi d
 exact ey results131 ⟨f,u,k⟩

theorem a09 {q0:l3}{r:l3}(hS:SH w K [] w K [])(D:q0.length≤maxLen)(hm:N2 F q0=some r):
  Calls prog 84 #[sv q0] w fun e w'=>∃K',e= .returned (sv r)∧SH w K [] w' K' []∧r.length≤maxLen:=by
 rw [N2] at hm
 refine ci func84 u ntmps84 (sr (lv (r_s u) (Q9 (mv u ?_))))
 obtain⟨r2,ab,h4⟩:=ob hm
 refine lk a5l (D2 F hS.enter0 D ab) ?_
 rintro e8 w6 ⟨i,rfl,ad⟩
 have G:=(hS.c0 ad).t0
 refine lv (y3 u) (nq (D0 h4 u (fun ae l=>?_) (fun ae l=>?_)))
 ·refine sr (lv (r_s u) (nq (rr ?_)))
  cases oi l
  exact ey results84 ⟨i,u,G,(by decide :([]:l3).length≤maxLen)⟩
 refine i8 (qs (sr (lv (r_t u) (nq ?_))))
 obtain⟨H,af,ag⟩:=ob l
 refine j9 (IW w K [] i [(0,sv H)] [] (H.length≤maxLen)) ?_ ?_
 ·refine i7 ?_
  obtain⟨aZ,ah,ai⟩:=ob af
  refine qw (fun (k:l3×Bool)=>IW w K [] i [(0,sv k.1),(3,.bool k.2)] [] (k.1.length≤maxLen)) ah ⟨i,u,G,kr,D⟩ ?_
  rintro k _ ba bb aj ak ⟨al,rfl,I,J,O⟩
  refine n9 (sr (mv u (nq (D0 aj u (fun am m=>?_) (fun am m=>?_)))))
  ·refine i8 (l4 (i7 (sr (lv (M7 u) (nr (bw [[105,110,103],[101,100],[101,115],[108,121],[115]] underlying22 D8 I fun R bc o an q ao=>(lv (p7 underlying22 u q) (lv (r_m u) (nq ?_)))))))))
   obtain⟨s,ap,aq⟩:=ob m
   refine j9 (IW w K [] o [(0,sv s.1),(3,.bool s.2)] [] (s.1.length≤maxLen)) ?_ ?_
   ·refine i7 ?_
    obtain⟨bd,ar,S⟩:=ob ap
    have au:=ao.sb (sd sz)
    refine qf (fun (x:Nat) (b:l3×Bool)=>IW w K [] o [(0,sv b.1),(3,.bool b.2),(10,V3 R 5 5),(11,V6 (([([105,110,103]:l3),([101,100]:l3),([101,115]:l3),([108,121]:l3),([115]:l3)]:List l3).length:Int)),(12,V6 ((x:Nat):Int))] [] (b.1.length≤maxLen)) ar ⟨o,u,au,kr,O⟩ ?_ ?_
    ·rintro x b _ aw be hi60 ax ay ⟨y,rfl,c,d,f⟩
     refine sr (lv (o4 u u) (ns (y5 u (b8 (by omega)) (i8 (l4 (n9 (i7 (sr ?_))))))))
     obtain⟨T,az,aA⟩:=ob ax
     refine li underlying22 D8 (q.mono d) az fun aB aC bf aD aE=>?_
     obtain⟨rfl,aF⟩:=aD
     have aG:D7 _ aB aC [sv T]:=aE
     refine lv (z2 D8 u c (aG 0 _ u)) (av u (ns ?_))
     obtain⟨aH,aI,aJ⟩:=ob aA
     refine j9 (IV w K [] y [(0,sv b.1),(3,.bool b.2),(5,sv T),(10,V3 R 5 5),(11,V6 (([([105,110,103]:l3),([101,100]:l3),([101,115]:l3),([108,121]:l3),([115]:l3)]:List l3).length:Int)),(12,V6 ((x:Nat):Int)),(26,.bool aH)] []) ?_ ?_
     ·refine j3 (mv u (mv u ?_))
      obtain⟨bg,aK,aL⟩:=ob aI
      refine lk b9j (a4r F c.enter0 f aF aK) ?_
      rintro bh bi ⟨U,rfl,A⟩
      have V:=(c.c0 A).t0
      refine mv u (bt aL (fun a B=>?_) (fun a B=>?_))
      ·refine lg a (i4 u) (lg a (F6 underlying9 u) (lg a (i4 u) (lg a (F6 underlying9 u) (lg a (I8 u u) (lg a (a2y u u) (lv (q8 u a u) (i5 ?_)))))))
       cases oi B
       exact qd ⟨U,u,V,A.le⟩
      iterate 6 refine lu a ?_
      refine lv (X8 u a u) (i5 ?_)
      cases oi B
      exact qd ⟨U,u,V,A.le⟩
     rintro _ bj ⟨W,rfl,X,Y⟩
     refine l4 (D0 aJ u (fun aM C=>?_) (fun aM C=>?_))
     ·refine sr (mv u (mv u (lv (F6 underlying9 u) (mv u (lv (F6 underlying9 u) (lv (I8 u u) ?_))))))
      obtain⟨bk,aa,aN⟩:=ob C
      refine lv (b1U underlying9 u u aa) (av u (nr (lv (r_t u) (nq (p9 (b1N u (c9 (c9 ?_))))))))
      cases oi aN
      cases ay _ u
      refine j7 ?_
      cases oi S
      exact qd ⟨W,u,X,(d.trans Y),(a1H f aa)⟩
     refine i8 (q7 (qg (lv (u3 u u (x9 hi60 (b7.max q))) (mv u (i5 ?_)))))
     cases oi C
     exact qd ⟨_,u,W,u,X,(d.trans Y),f⟩
    rintro b _ aw aO ⟨y,rfl,c,d,f⟩
    subst aO
    refine sr (lv (o4 u u) (ns (y4 u (c6 (by omega)) (p9 (c9 (c9 (j7 ?_)))))))
    cases oi S
    exact qd ⟨y,u,c,d,f⟩
   rintro _ bl ⟨aP,rfl,aQ,aR,aS⟩
   refine q7 ?_
   cases oi aq
   exact qd ⟨_,u,aP,u,aQ,((J.trans an).trans aR),aS⟩
  refine p9 (c9 (c9 ?_))
  cases oi m
  cases ak _ u
  refine j7 ?_
  cases oi ai
  exact qd ⟨al,u,I,J,O⟩
 rintro _ bm ⟨aT,rfl,aU,bn,aV⟩
 refine qr (mv u (av u (nq (l7 ?_))))
 cases oi ag
 exact ey results84 ⟨aT,u,aU,aV⟩

theorem a3H {q0:List l3}{q1:l3}{r:Int}(hS:SH w K [] w K [])(d:b7 B3 K A a b q0)(Y:q1.length≤maxLen)(hm:P3 F q0 q1=some r):
  Calls prog 132 #[V3 A a b,sv q1] w (R_i w K r):=by
 rw [P3] at hm
 refine ci func132 u ntmps132 (sr (lv (R1 u) (Q9 (mv u (lv (p7 underlying22 u d) (lv (r_m u) (nq ?_)))))))
 obtain⟨s,x,f⟩:=ob hm
 refine j9 (IE s w K [] K [] []) ?_ ?_
 ·refine i7 ?_
  obtain⟨aa,y,m⟩:=ob x
  refine qf (fun (o:Nat) (q:Unit)=>IV w K [] K [(0,V3 A a b),(1,sv q1),(7,V6 (q0.length:Int)),(8,V6 ((o:Nat):Int))] []) y ⟨K,u,hS,kr⟩ ?_ ?_
  ·rintro o q _ B ab hi24 C D ⟨i,rfl,c,k⟩
   refine sr (lv (o4 u u) (ns (y5 u (b8 (by omega)) (i8 (l4 (n9 (i7 (sr (mv u (av u (nr (mv u ?_))))))))))))
   refine mv u (mv u ?_)
   obtain⟨G,H,I⟩:=ob C
   refine li underlying22 D8 (d.mono k) H fun J O ac R S=>?_
   obtain⟨rfl,ad⟩:=R
   have T:D7 _ J O [sv G]:=S
   refine lv (z2 D8 u c (T 0 _ u)) (lv (J4 u u) (nq (D0 I u (fun U l=>?_) (fun U l=>?_))))
   ·refine sr (mv u (av u (nq (l7 (j4 (g6 (g6 ?_)))))))
    cases oi l
    cases D _ u
    refine j4 (g6 ?_)
    cases oi m
    refine g6 ?_
    cases oi f
    exact ey results132 ⟨i,u,c,(b0L hi24 (b7.max d))⟩
   refine i8 (q7 (qg (lv (u3 u u (x9 hi24 (b7.max d))) (mv u (i5 ?_)))))
   cases oi l
   exact qd ⟨_,u,i,u,c,k⟩
  rintro q _ B V ⟨i,rfl,c,k⟩
  subst V
  refine sr (lv (o4 u u) (ns (y4 u (c6 (by omega)) (p9 (c9 (c9 (j7 ?_)))))))
  cases oi m
  exact I6 ⟨_,i,u,u,c,k⟩ trivial
 rintro _ ae ⟨s9,W,rfl,rfl,X,ag⟩
 have f:=D9 f
 refine qr (lv (r4 (v:=V6 (-1)) u) (nq (l7 ?_)))
 cases oi f
 exact ey results132 ⟨W,u,X,(by decide :j5 (-1))⟩

theorem G7 {q0:List l3}{q1:l3}{r:Bool}(hS:SH w K [] w K [])(c:b7 B3 K A a b q0)(d:q1.length≤maxLen)(hm:C5 F q0 q1=some r):
  Calls prog 85 #[V3 A a b,sv q1] w (R_b w K r):=by
 rw [C5] at hm
 refine ci func85 u ntmps85 (sr (lv (M7 u) (nr (mv u (mv u ?_)))))
 obtain⟨o,f,i⟩:=ob hm
 refine lk b9k (a3H F hS.enter0 c d f) ?_
 rintro q s ⟨k,rfl,l,x⟩
 have m:=(hS.c0 l).t0
 refine lv (a2y u u) (av u (nq (l7 ?_)))
 cases oi i
 exact ey results85 ⟨k,u,m⟩

theorem a08 {q0:o0}{r:Bool}(hS:SH w K [] w K [])(ae:b7 B3 K A a b q0.Stops)(U:b7 G5 K B c d q0.Syns)(hm:N1 F q0=some r):
  Calls prog 43 #[.agg #[V3 A a b,V3 B c d]] w (R_b w K r):=by
 rw [N1] at hm
 refine ci func43 u ntmps43 (sr (bx u hS fun f cu aO=>?_))
 have x:SH _ _ _ _ _ [r5 f [V3 A a b,V3 B c d] 38]:=aO
 refine lv (M7 u) (ns (n9 ?_))
 obtain⟨aP,aQ,aR⟩:=ob hm
 refine j9 (IV w K [] K [(1,pt f),(22,.bool aP)] [r5 f [V3 A a b,V3 B c d] 38]) ?_ ?_
 ·refine j3 (fl a0M u W1 m0 x u (lv (p7 underlying22 u ae) (lv (E9 u u) (mv u (bt aQ (fun i af=>?_) (fun i af=>?_))))))
  ·refine lu i (lu i (lu i (lu i (lv (L1 u i u) (mv u (lu u (lu u (lu u (lu u ?_)))))))))
   refine lv (L1 u u u) (i5 ?_)
   cases oi af
   exact qd ⟨K,u,x,kr⟩
  refine lg i (c7 a0M u) (lg i (x8 W1 u m0 x u) ?_)
  obtain⟨cv,aS,aT⟩:=ob af
  refine A7 (wg u u i) u (A6 (vs:=[V3 A a b]) c0x u) (a4Y F x.enter0 ae aS) ?_
  rintro cw cx ⟨aE,rfl,V⟩
  refine⟨_,u,?_⟩
  have ag:=(x.c0 V).t1
  refine lg i (y3 u) (lv (m9 u i u) (mv u (bt aT (fun k ah=>?_) (fun k ah=>?_))))
  ·refine lu k (lu k (lu k (lu k (lv (L1 u k u) (i5 ?_)))))
   cases oi ah
   exact qd ⟨aE,u,ag,V.le⟩
  refine lg k (c7 a0N u) (lg k (x8 a5B u m0 ag u) (lg k (p7 underlying36 u (U.mono V.le)) (lg k (E9 u u) (lv (m9 u k u) (i5 ?_)))))
  cases oi ah
  exact qd ⟨aE,u,ag,V.le⟩
 rintro _ cy ⟨W,rfl,ai,X⟩
 refine l4 (D0 aR u (fun aU aj=>?_) (fun aU aj=>?_))
 ·refine sr (lv (M7 u) (nq (rr ?_)))
  cases oi aj
  exact ey results43 ⟨W,u,ai.s⟩
 refine i8 (qs (sr (fl a0N u a5B m0 ai u (lv (p7 underlying36 u (U.mono X)) (lv (r_m u) (nq ?_))))))
 obtain⟨aV,aW,y⟩:=ob aj
 refine j9 (IE aV w K [] W [] []) ?_ ?_
 ·refine i7 ?_
  obtain⟨cz,aX,ak⟩:=ob aW
  refine qf (fun (s:Nat) (aF:Unit)=>IV w K [] W [(1,pt f),(24,V3 B c d),(25,V6 (q0.Syns.length:Int)),(26,V6 ((s:Nat):Int))] [r5 f [V3 A a b,V3 B c d] 38]) aX ⟨W,u,ai,kr⟩ ?_ ?_
  ·rintro s aF _ aY cA hi53 aZ aG ⟨am,rfl,Y,C⟩
   refine sr (lv (o4 u u) (ns (y5 u (b8 (by omega)) (i8 (l4 (n9 (i7 (sr ?_))))))))
   obtain⟨D,ba,bb⟩:=ob aZ
   refine li underlying36 a0T (U.mono (X.trans C)) ba fun bc bd cB be bf=>?_
   obtain⟨G,H,I,rfl,J,an⟩:=be
   have bg:D7 _ bc bd [V3 G H I,sv D.To]:=bf
   refine lv (C9 a0T u Y bg u) (al a0T Y fun ao cC bh=>?_)
   have bi:SH _ _ _ _ _ [r5 ao [V3 none 0 0,sv []] 128,_]:=bh
   refine lw [V3 G H I,sv D.To] a0T bi fun cD aH=>(ns (n9 ?_))
   obtain⟨bj,bk,bl⟩:=ob bb
   refine j9 (IV w K [] am [(1,pt f),(4,pt ao),(24,V3 B c d),(25,V6 (q0.Syns.length:Int)),(26,V6 ((s:Nat):Int)),(48,.bool bj)] [r5 f [V3 A a b,V3 B c d] 38,r5 ao [V3 G H I,sv D.To] 128]) ?_ ?_
   ·refine D3 mixed (by kernel_rfl) aH (kv (c7 Q5 u) (kh (u9 W1 u m0 u) (kv (p7 underlying22 u J) ?_)))
    obtain⟨cE,bm,bn⟩:=ob bk
    refine kc a19 (fun _ _ bo cF=>(z6 F) bo.enter0 J.rn (by decide :j5 1) (by decide :j5 3) bm) (kv (y3 u) (km u (bt bn (fun l ap=>?_) (fun l ap=>?_))))
    ·refine kn l (kn l (kn l (kn l (kv (L1 u l u) (km u ?_)))))
     iterate 6 refine qv u u u u ?_
     refine kv (L1 u u u) (A3 ?_)
     rintro cG ⟨bp,bq,br⟩
     cases oi ap
     exact qd ⟨bp,u,bq.f1,br⟩
    refine kg l (c7 a2G u) (kgh l (u9 D8 u m0 u) ?_)
    obtain⟨cH,bs,bu⟩:=ob ap
    refine kcg l a5l (fun _ _ bv cI=>(D2 F) bv.enter0 an bs) (kg l (y3 u) (kv (m9 u l u) (km u (bt bu (fun q aq=>?_) (fun q aq=>?_)))))
    ·iterate 6 refine kn q ?_
     refine kv (L1 u q u) (A3 ?_)
     rintro cJ ⟨bz,bA,bB⟩
     cases oi aq
     exact qd ⟨bz,u,bA.f1,bB⟩
    refine kg q (c7 a2G u) (kgh q (u9 D8 u m0 u) ?_)
    obtain⟨cK,aI,bC⟩:=ob aq
    refine kdg q b8v (fun _ _ bD cL=>(a09 F) bD.enter0 an aI) ?_
    obtain⟨_,_,_,⟨_,_,_,cM⟩,_⟩:=(a09 F) aH.enter0 an aI []
    refine kg q (c7 a2G u) (kgh q (u9 D8 u m0 u) (kg q (X9 u u) (kv (m9 u q u) (A3 ?_))))
    rintro cN ⟨bE,bF,bG⟩
    cases oi bC
    exact qd ⟨bE,u,bF.f1,bG⟩
   rintro _ cO ⟨aa,rfl,ar,O⟩
   refine l4 (D0 bl u (fun bH au=>?_) (fun bH au=>?_))
   ·refine sr (lv (M7 u) (nq (rr (j4 (g6 (g6 ?_))))))
    cases oi au
    cases aG _ u
    refine j4 (g6 ?_)
    cases oi ak
    refine g6 ?_
    cases oi y
    exact ey results43 ⟨aa,u,ar.s⟩
   refine i8 (qr (fl Q5 u W1 m1 ar u (lv (p7 underlying22 u (J.mono O)) (lv (r_m u) (nq ?_)))))
   obtain⟨bI,bJ,ab⟩:=ob au
   refine j9 (IE bI w K [] aa [(1,pt f),(24,V3 B c d),(25,V6 (q0.Syns.length:Int)),(26,V6 ((s:Nat):Int))] [r5 f [V3 A a b,V3 B c d] 38]) ?_ ?_
   ·refine i7 ?_
    obtain⟨cP,bK,aJ⟩:=ob bJ
    have bL:=ar.sb (sk (sd sz))
    refine qf (fun (aw:Nat) (aK:Unit)=>IV w K [] aa [(1,pt f),(24,V3 B c d),(25,V6 (q0.Syns.length:Int)),(26,V6 ((s:Nat):Int)),(50,V3 G H I),(51,V6 (D.From.length:Int)),(52,V6 ((aw:Nat):Int))] [r5 f [V3 A a b,V3 B c d] 38]) bK ⟨aa,u,bL,kr⟩ ?_ ?_
    ·rintro aw aK _ bM cQ hi147 bN bO ⟨ax,rfl,R,S⟩
     refine sr (lv (o4 u u) (ns (y5 u (b8 (by omega)) (i8 (l4 (n9 (i7 (sr ?_))))))))
     obtain⟨ay,bP,bQ⟩:=ob bN
     refine li underlying22 D8 (J.mono (O.trans S)) bP fun bR bS cR bT bU=>?_
     obtain⟨rfl,az⟩:=bT
     have bV:D7 _ bR bS [sv ay]:=bU
     refine lv (z2 D8 u R (bV 0 _ u)) (av u (ns ?_))
     obtain⟨bW,bX,bY⟩:=ob bQ
     refine j9 (IV w K [] ax [(1,pt f),(24,V3 B c d),(25,V6 (q0.Syns.length:Int)),(26,V6 ((s:Nat):Int)),(50,V3 G H I),(51,V6 (D.From.length:Int)),(52,V6 ((aw:Nat):Int)),(70,.bool bW)] [r5 f [V3 A a b,V3 B c d] 38]) ?_ ?_
     ·refine j3 (mv u ?_)
      obtain⟨cS,bZ,ca⟩:=ob bX
      refine lk a5l (D2 F R.enter0 az bZ) ?_
      rintro cT cU ⟨cb,rfl,T⟩
      have aA:=(R.c0 T).t1
      refine lv (y3 u) (mv u (bt ca (fun m aB=>?_) (fun m aB=>?_)))
      ·refine lu m (lu m (lu m (lu m (lv (L1 u m u) (mv u (lu u (lu u (lu u (lu u ?_)))))))))
       refine lv (L1 u u u) (i5 ?_)
       cases oi aB
       exact qd ⟨cb,u,aA,T.le⟩
      refine lg m (i4 u) ?_
      obtain⟨cV,cc,cd⟩:=ob aB
      refine A7 (wg u u m) u (A6 (vs:=[sv ay]) b8v u) (a09 F aA.enter0 az cc) ?_
      rintro cW cX ⟨ce,rfl,ac,cY⟩
      refine⟨_,u,?_⟩
      have ad:=(aA.c0 ac).t1
      refine lg m (i4 u) (lg m (X9 u u) (lv (m9 u m u) (mv u (bt cd (fun o aC=>?_) (fun o aC=>?_)))))
      ·refine lu o (lu o (lu o (lu o (lv (L1 u o u) (i5 ?_)))))
       cases oi aC
       exact qd ⟨ce,u,ad,(T.le.trans ac.le)⟩
      refine lg o (c7 a0M u) (lg o (x8 W1 u m0 ad u) (lg o (i4 u) ?_))
      obtain⟨cZ,cf,cg⟩:=ob aC
      refine A7 (wg u u o) u (A6 (vs:=[V3 A a b,sv ay]) b5L u) (G7 F ad.enter0 (b7.mono (((((X.trans C).trans O).trans S).trans T.le).trans ac.le) ae) az cf) ?_
      rintro da db ⟨ch,rfl,aL⟩
      refine⟨_,u,?_⟩
      have cj:=(ad.c0 aL).t1
      refine lv (m9 u o u) (i5 ?_)
      cases oi cg
      exact qd ⟨ch,u,cj,((T.le.trans ac.le).trans aL.le)⟩
     rintro _ dc ⟨aM,rfl,aN,ck⟩
     refine l4 (D0 bY u (fun cl aD=>?_) (fun cl aD=>?_))
     ·refine sr (lv (M7 u) (nq (l7 (j4 (g6 (g6 ?_))))))
      cases oi aD
      cases bO _ u
      refine j4 (g6 ?_)
      cases oi aJ
      refine j4 (g6 (g6 ?_))
      cases oi ab
      cases aG _ u
      refine j4 (g6 ?_)
      cases oi ak
      refine g6 ?_
      cases oi y
      exact ey results43 ⟨aM,u,aN.s⟩
     refine i8 (q7 (qg (lv (u3 u u (x9 hi147 (b7.max (J.mono O)))) (mv u (i5 ?_)))))
     cases oi aD
     exact qd ⟨_,u,aM,u,aN,(S.trans ck)⟩
    rintro aK _ bM cm ⟨ax,rfl,R,S⟩
    subst cm
    refine sr (lv (o4 u u) (ns (y4 u (c6 (by omega)) (p9 (c9 (c9 (j7 ?_)))))))
    cases oi aJ
    exact qd ⟨_,ax,u,u,R,S⟩
   rintro _ dd ⟨de,cn,rfl,rfl,cp,cq⟩
   have ab:=D9 ab
   refine q7 (qg (lv (u3 u u (x9 hi53 (b7.max (U.mono X)))) (mv u (i5 ?_))))
   cases oi ab
   exact qd ⟨_,u,cn,u,cp,((C.trans O).trans cq)⟩
  rintro aF _ aY cr ⟨am,rfl,Y,C⟩
  subst cr
  refine sr (lv (o4 u u) (ns (y4 u (c6 (by omega)) (p9 (c9 (c9 (j7 ?_)))))))
  cases oi ak
  exact I6 ⟨_,am,u,u,Y.s,C⟩ trivial
 rintro _ df ⟨dg,cs,rfl,rfl,ct,dh⟩
 have y:=D9 y
 refine qr (lv (r_t u) (nq (l7 ?_)))
 cases oi y
 exact ey results43 ⟨cs,u,ct⟩

theorem a1b {q0:l3}{r:Bool}(hS:SH w K [] w K [])(y:q0.length≤maxLen)(hm:N4 F q0=some r):
  Calls prog 95 #[sv q0] w (R_b w K r):=by
 rw [N4] at hm
 refine ci func95 u ntmps95 (sr (lv (M7 u) (Q9 (mv u (lv (F6 underlying9 u) (lv (r_m u) (nq ?_)))))))
 obtain⟨A,B,d⟩:=ob hm
 refine j9 (IE A w K [] K [(0,sv q0)] []) ?_ ?_
 ·refine i7 ?_
  obtain⟨ab,C,o⟩:=ob B
  refine qf (fun (i:Nat) (q:Unit)=>IV w K [] K [(0,sv q0),(5,V6 (q0.length:Int)),(6,V6 ((i:Nat):Int))] []) C ⟨K,u,hS,kr⟩ ?_ ?_
  ·rintro i q _ D ac hi21 G H ⟨c,rfl,f,k⟩
   refine sr (lv (o4 u u) (ns (y5 u (b8 (by omega)) (i8 (l4 (n9 (i7 (sr (mv u (av u (ns ?_)))))))))))
   obtain⟨I,J,O⟩:=ob G
   refine j9 (IV w K [] c [(0,sv q0),(5,V6 (q0.length:Int)),(6,V6 ((i:Nat):Int)),(18,.bool I)] []) ?_ ?_
   ·refine j3 (mv u (mv u ?_))
    obtain⟨ad,R,S⟩:=ob J
    refine lv (I7 underlying9 u u R) (lv (b79 (b:=(32:UInt8)) u u) (mv u (bt S (fun a l=>?_) (fun a l=>?_))))
    ·refine lu a (lu a (lu a (lu a (lv (L1 u a u) (i5 ?_)))))
     cases oi l
     exact qd ⟨c,u,f,kr⟩
    refine lg a (i4 u) (lg a (i4 u) ?_)
    obtain⟨ae,T,U⟩:=ob l
    refine lg a (I7 underlying9 u u T) (lg a (b78 (b:=(126:UInt8)) u u) (lv (m9 u a u) (i5 ?_)))
    cases oi U
    exact qd ⟨c,u,f,kr⟩
   rintro _ af ⟨s,rfl,x,V⟩
   refine l4 (D0 O u (fun W m=>?_) (fun W m=>?_))
   ·refine sr (lv (M7 u) (nq (l7 (j4 (g6 (g6 ?_))))))
    cases oi m
    cases H _ u
    refine j4 (g6 ?_)
    cases oi o
    refine g6 ?_
    cases oi d
    exact ey results95 ⟨s,u,x⟩
   refine i8 (q7 (qg (lv (u3 u u (x9 hi21 y)) (mv u (i5 ?_)))))
   cases oi m
   exact qd ⟨_,u,s,u,x,(k.trans V)⟩
  rintro q _ D X ⟨c,rfl,f,k⟩
  subst X
  refine sr (lv (o4 u u) (ns (y4 u (c6 (by omega)) (p9 (c9 (c9 (j7 ?_)))))))
  cases oi o
  exact qd ⟨_,c,u,u,f,k⟩
 rintro _ w9 ⟨s5,Y,rfl,rfl,aa,ai⟩
 have d:=D9 d
 refine qr (mv u (lv (F6 underlying9 u) (lv (U4 u u) (av u (nq (l7 ?_))))))
 cases oi d
 exact ey results95 ⟨Y,u,aa⟩

theorem a2S {q0:u1}{r:Bool}(hS:SH w K [] w K [])(aH:j5 q0.Id)(D:b7 F8 K A a b q0.Fields)(G:b7 H5 K B c d q0.Nums)(hm:T5 F q0=some r):
  Calls prog 56 #[.agg #[V6 q0.Id,V3 A a b,V3 B c d]] w (R_b w K r):=by
 rw [T5] at hm
 refine ci func56 u ntmps56 (sr (bx u hS fun k cT aI=>?_))
 have Y:SH _ _ _ _ _ [r5 k [V6 q0.Id,V3 A a b,V3 B c d] 64]:=aI
 refine lv (M7 u) (ns (n9 ?_))
 obtain⟨aJ,aK,aL⟩:=ob hm
 refine j9 (IV w K [] K [(1,pt k),(22,.bool aJ)] [r5 k [V6 q0.Id,V3 A a b,V3 B c d] 64]) ?_ ?_
 ·refine j3 (fl T9 u G4 m0 Y u ?_)
  obtain⟨cU,aM,aN⟩:=ob aK
  refine lk a19 (z6 F Y.enter0 aH (by decide :j5 1) (by decide :j5 9999) aM) ?_
  rintro cV cW ⟨aa,rfl,C⟩
  have H:=(Y.c0 C).t1
  refine lv (y3 u) (mv u (bt aN (fun o ab=>?_) (fun o ab=>?_)))
  ·refine lu o (lu o (lu o (lu o (lv (L1 u o u) (mv u (lu u (lu u (lu u (lu u ?_)))))))))
   refine lv (L1 u u u) (i5 ?_)
   cases oi ab
   exact qd ⟨aa,u,H,C.le⟩
  refine lg o (c7 S7 u) (lg o (x8 a3p u m0 H u) (lg o (p7 underlying61 u (D.mono C.le)) (lg o (E9 u u) (lv (m9 u o u) (mv u (bt ab (fun q ac=>?_) (fun q ac=>?_)))))))
  ·refine lu q (lu q (lu q (lu q (lv (L1 u q u) (i5 ?_)))))
   cases oi ac
   exact qd ⟨aa,u,H,C.le⟩
  refine lg q (c7 a0r u) (lg q (x8 a43 u m0 H u) (lg q (p7 underlying62 u (G.mono C.le)) (lg q (E9 u u) (lv (m9 u q u) (i5 ?_)))))
  cases oi ac
  exact qd ⟨aa,u,H,C.le⟩
 rintro _ cX ⟨O,rfl,ad,y⟩
 refine l4 (D0 aL u (fun aO ae=>?_) (fun aO ae=>?_))
 ·refine sr (lv (M7 u) (nq (rr ?_)))
  cases oi ae
  exact ey results56 ⟨O,u,ad.s⟩
 refine i8 (qs (sr (fl S7 u a3p m0 ad u (lv (p7 underlying61 u (D.mono y)) (lv (r_m u) (nq ?_))))))
 obtain⟨aP,aQ,R⟩:=ob ae
 refine j9 (IE aP w K [] O [(1,pt k)] [r5 k [V6 q0.Id,V3 A a b,V3 B c d] 64]) ?_ ?_
 ·refine i7 ?_
  obtain⟨cY,aR,aw⟩:=ob aQ
  refine qf (fun (af:Nat) (ax:Unit)=>IV w K [] O [(1,pt k),(24,V3 A a b),(25,V6 (q0.Fields.length:Int)),(26,V6 ((af:Nat):Int))] [r5 k [V6 q0.Id,V3 A a b,V3 B c d] 64]) aR ⟨O,u,ad,kr⟩ ?_ ?_
  ·rintro af ax _ aS cZ hi54 aT aU ⟨ag,rfl,S,I⟩
   refine sr (lv (o4 u u) (ns (y5 u (b8 (by omega)) (i8 (l4 (n9 (i7 (sr (mv u ?_)))))))))
   obtain⟨T,aV,aW⟩:=ob aT
   refine li underlying61 J6 (D.mono (y.trans I)) aV fun aX aY da aZ ba=>?_
   obtain⟨rfl,bb,bc⟩:=aZ
   have bd:D7 _ aX aY [sv T.Name,sv T.Text]:=ba
   refine lv (C9 J6 u S bd u) (al J6 S fun be db bf=>?_)
   have bg:SH _ _ _ _ _ [r5 be [sv [],sv []] 118,_]:=bf
   refine av u (lw [sv T.Name,sv T.Text] J6 bg fun dc bh=>(ns ?_))
   obtain⟨bi,bj,bk⟩:=ob aW
   refine j9 (IV w K [] ag [(1,pt k),(24,V3 A a b),(25,V6 (q0.Fields.length:Int)),(26,V6 ((af:Nat):Int)),(56,.bool bi)] [r5 k [V6 q0.Id,V3 A a b,V3 B c d] 64]) ?_ ?_
   ·refine D3 mixed (by kernel_rfl) bh (kv (c7 a1E u) (kh (u9 D8 u m0 u) ?_))
    obtain⟨dd,bl,bm⟩:=ob bj
    refine kc a5l (fun _ _ bn de=>(D2 F) bn.enter0 bb bl) (kv (y3 u) (km u (bt bm (fun s ah=>?_) (fun s ah=>?_))))
    ·refine kn s (kn s (kn s (kn s (kv (L1 u s u) (km u (qv u u u u (qv u u u u (qv u u u u ?_))))))))
     iterate 10 refine ku ?_
     refine qv u u u u (kv (L1 u u u) (A3 ?_))
     rintro df ⟨bo,bp,bq⟩
     cases oi ah
     exact qd ⟨bo,u,bp.s,bq⟩
    refine kg s (c7 a5T u) (kgh s (u9 D8 u m0 u) ?_)
    obtain⟨dg,br,bs⟩:=ob ah
    refine kcg s b62 (fun _ _ bu dh=>(a1b F) bu.enter0 bc br) (kg s (y3 u) (kv (m9 u s u) (km u (bt bs (fun l ai=>?_) (fun l ai=>?_)))))
    ·refine kn l (kn l (kn l ?_))
     iterate 10 refine ku ?_
     refine kn l (kv (L1 u l u) (A3 ?_))
     rintro di ⟨bv,bz,bA⟩
     cases oi ai
     exact qd ⟨bv,u,bz.s,bA⟩
    refine kg l (i4 u) (kg l (E9 u u) (kg l (i4 u) (bt ai (fun f aj=>?_) (fun f aj=>?_))))
    ·refine kg f (c7 S7 u) (kgh f (u9 a3p u m1 u) (kg f (i4 u) (kg f (I8 u u) ?_)))
     obtain⟨ay,bB,bC⟩:=ob aj
     refine A8 (t:=F8) (wg u u f) u underlying61 J6 u u (D.mono (y.trans I)) bB fun bD bE dj bF bG=>?_
     obtain⟨rfl,dk,dl⟩:=bF
     have bH:D7 _ bD bE [sv ay.Name,sv ay.Text]:=bG
     refine kg f (c7 a1E u) (kgh f (z7 D8 u (bH 0 _ u)) (kg f (c7 a1E u) (kgh f (u9 D8 u m0 u) (kg f (b0Q u u) (kg l (q8 u f u) (kv (m9 u l u) (A3 ?_)))))))
     rintro dm ⟨bI,bJ,bK⟩
     cases oi bC
     exact qd ⟨bI,u,bJ.s,bK⟩
    iterate 10 refine kn f ?_
    refine kg l (X8 u f u) (kv (m9 u l u) (A3 ?_))
    rintro dn ⟨bL,bM,bN⟩
    cases oi aj
    exact qd ⟨bL,u,bM.s,bN⟩
   rintro _ dp ⟨az,rfl,aA,bO⟩
   refine l4 (D0 bk u (fun bP ak=>?_) (fun bP ak=>?_))
   ·refine sr (lv (M7 u) (nq (l7 (j4 (g6 (g6 ?_))))))
    cases oi ak
    cases aU _ u
    refine j4 (g6 ?_)
    cases oi aw
    refine g6 ?_
    cases oi R
    exact ey results56 ⟨az,u,aA.s⟩
   refine i8 (q7 (qg (lv (u3 u u (x9 hi54 (b7.max (D.mono y)))) (mv u (i5 ?_)))))
   cases oi ak
   exact qd ⟨_,u,az,u,aA,(I.trans bO)⟩
  rintro ax _ aS bQ ⟨ag,rfl,S,I⟩
  subst bQ
  refine sr (lv (o4 u u) (ns (y4 u (c6 (by omega)) (p9 (c9 (c9 (j7 ?_)))))))
  cases oi aw
  exact qd ⟨_,ag,u,u,S,I⟩
 rintro _ dq ⟨dr,am,rfl,rfl,aB,U⟩
 have R:=D9 R
 refine qs (sr (fl a0r u a43 m0 aB u (lv (p7 underlying62 u (G.mono (y.trans U))) (lv (r_m u) (nq ?_)))))
 obtain⟨bR,bS,V⟩:=ob R
 refine j9 (IE bR w K [] am [] []) ?_ ?_
 ·refine i7 ?_
  obtain⟨ds,bT,aC⟩:=ob bS
  refine qf (fun (an:Nat) (aD:Unit)=>IV w K [] am [(1,pt k),(59,V3 B c d),(60,V6 (q0.Nums.length:Int)),(61,V6 ((an:Nat):Int))] [r5 k [V6 q0.Id,V3 A a b,V3 B c d] 64]) bT ⟨am,u,aB,kr⟩ ?_ ?_
  ·rintro an aD _ bU dt hi156 bV bW ⟨ao,rfl,W,J⟩
   refine sr (lv (o4 u u) (ns (y5 u (b8 (by omega)) (i8 (l4 (n9 (i7 (sr (mv u ?_)))))))))
   obtain⟨X,bX,bY⟩:=ob bV
   refine li underlying62 P0 (G.mono ((y.trans U).trans J)) bX fun bZ ca du cb cc=>?_
   obtain⟨rfl,cd,ce⟩:=cb
   have cf:D7 _ bZ ca [sv X.Name,V6 X.Num]:=cc
   refine lv (C9 P0 u W cf u) (al P0 W fun cg dv ch=>?_)
   have cj:SH _ _ _ _ _ [r5 cg [sv [],V6 0] 135,_]:=ch
   refine av u (lw [sv X.Name,V6 X.Num] P0 cj fun dw ck=>(ns ?_))
   obtain⟨cl,cm,cn⟩:=ob bY
   refine j9 (IV w K [] ao [(1,pt k),(59,V3 B c d),(60,V6 (q0.Nums.length:Int)),(61,V6 ((an:Nat):Int)),(91,.bool cl)] [r5 k [V6 q0.Id,V3 A a b,V3 B c d] 64]) ?_ ?_
   ·refine D3 mixed (by kernel_rfl) ck (kv (c7 a3z u) (kh (u9 D8 u m0 u) ?_))
    obtain⟨dx,cp,cq⟩:=ob cm
    refine kc a5l (fun _ _ cr dy=>(D2 F) cr.enter0 cd cp) (kv (y3 u) (km u (bt cq (fun x ap=>?_) (fun x ap=>?_))))
    ·refine kn x (kn x (kn x (kn x (kv (L1 u x u) (km u (qv u u u u (qv u u u u (qv u u u u ?_))))))))
     iterate 10 refine ku ?_
     refine qv u u u u (kv (L1 u u u) (A3 ?_))
     rintro dz ⟨cs,ct,cu⟩
     cases oi ap
     exact qd ⟨cs,u,ct.s,cu⟩
    refine kg x (c7 b0n u) (kgh x (u9 G4 u m0 u) ?_)
    obtain⟨dA,cv,cw⟩:=ob ap
    refine kcg x a19 (fun _ _ cx dB=>(z6 F) cx.enter0 ce R3 (by decide :j5 999999999) cv) (kg x (y3 u) (kv (m9 u x u) (km u (bt cw (fun m aq=>?_) (fun m aq=>?_)))))
    ·refine kn m (kn m (kn m ?_))
     iterate 10 refine ku ?_
     refine kn m (kv (L1 u m u) (A3 ?_))
     rintro dC ⟨cy,cz,cA⟩
     cases oi aq
     exact qd ⟨cy,u,cz.s,cA⟩
    refine kg m (i4 u) (kg m (E9 u u) (kg m (i4 u) (bt aq (fun i ar=>?_) (fun i ar=>?_))))
    ·refine kg i (c7 a0r u) (kgh i (u9 a43 u m1 u) (kg i (i4 u) (kg i (I8 u u) ?_)))
     obtain⟨aE,cB,cC⟩:=ob ar
     refine A8 (t:=H5) (wg u u i) u underlying62 P0 u u (G.mono ((y.trans U).trans J)) cB fun cD cE dD cF cG=>?_
     obtain⟨rfl,dE,dF⟩:=cF
     have cH:D7 _ cD cE [sv aE.Name,V6 aE.Num]:=cG
     refine kg i (c7 a3z u) (kgh i (z7 D8 u (cH 0 _ u)) (kg i (c7 a3z u) (kgh i (u9 D8 u m0 u) (kg i (b0Q u u) (kg m (q8 u i u) (kv (m9 u m u) (A3 ?_)))))))
     rintro dG ⟨cI,cJ,cK⟩
     cases oi cC
     exact qd ⟨cI,u,cJ.s,cK⟩
    iterate 10 refine kn i ?_
    refine kg m (X8 u i u) (kv (m9 u m u) (A3 ?_))
    rintro dH ⟨cL,cM,cN⟩
    cases oi ar
    exact qd ⟨cL,u,cM.s,cN⟩
   rintro _ dI ⟨aF,rfl,aG,cO⟩
   refine l4 (D0 cn u (fun cP au=>?_) (fun cP au=>?_))
   ·refine sr (lv (M7 u) (nq (l7 (j4 (g6 (g6 ?_))))))
    cases oi au
    cases bW _ u
    refine j4 (g6 ?_)
    cases oi aC
    refine g6 ?_
    cases oi V
    exact ey results56 ⟨aF,u,aG.s⟩
   refine i8 (q7 (qg (lv (u3 u u (x9 hi156 (b7.max (G.mono (y.trans U))))) (mv u (i5 ?_)))))
   cases oi au
   exact qd ⟨_,u,aF,u,aG,(J.trans cO)⟩
  rintro aD _ bU cQ ⟨ao,rfl,W,J⟩
  subst cQ
  refine sr (lv (o4 u u) (ns (y4 u (c6 (by omega)) (p9 (c9 (c9 (j7 ?_)))))))
  cases oi aC
  exact I6 ⟨_,ao,u,u,W.s,J⟩ trivial
 rintro _ dJ ⟨dK,cR,rfl,rfl,cS,dL⟩
 have V:=D9 V
 refine qr (lv (r_t u) (nq (l7 ?_)))
 cases oi V
 exact ey results56 ⟨cR,u,cS⟩

theorem a4k {q0:List u1}{r:Bool}(hS:SH w K [] w K [])(f:b7 E5 K A a b q0)(hm:W2 F q0=some r):
  Calls prog 44 #[V3 A a b] w (R_b w K r):=by
 rw [W2] at hm
 refine ci func44 u ntmps44 (sr (lv (M7 u) (Q9 (mv u (lv (p7 underlying40 u f) (lv (r_m u) (nq ?_)))))))
 obtain⟨U,V,k⟩:=ob hm
 refine j9 (IE U w K [] K [(0,V3 A a b)] []) ?_ ?_
 ·refine i7 ?_
  obtain⟨bc,W,J⟩:=ob V
  refine qf (fun (m:Nat) (O:Unit)=>IV w K [] K [(0,V3 A a b),(5,V3 A a b),(6,V6 (q0.length:Int)),(7,V6 ((m:Nat):Int))] []) W ⟨K,u,hS,kr⟩ ?_ ?_
  ·rintro m O _ X bd hi23 Y aa ⟨o,rfl,l,i⟩
   refine sr (lv (o4 u u) (ns (y5 u (b8 (by omega)) (i8 (l4 (n9 (i7 (sr (mv u ?_)))))))))
   obtain⟨q,ab,ac⟩:=ob Y
   refine li underlying40 C8 (f.mono i) ab fun ad ae be af ag=>?_
   obtain⟨s,x,y,B,C,D,rfl,ah,ai,aj⟩:=af
   have ak:D7 _ ad ae [V6 q.Id,V3 s x y,V3 B C D]:=ag
   refine lv (C9 C8 u l ak u) (al C8 l fun am bf an=>?_)
   have ao:SH _ _ _ _ _ [r5 am [V6 0,V3 none 0 0,V3 none 0 0] 64]:=an
   refine av u (lw [V6 q.Id,V3 s x y,V3 B C D] C8 ao fun bg ap=>(ns ?_))
   obtain⟨aq,ar,au⟩:=ob ac
   refine j9 (IV w K [] o [(0,V3 A a b),(5,V3 A a b),(6,V6 (q0.length:Int)),(7,V6 ((m:Nat):Int)),(29,.bool aq)] []) ?_ ?_
   ·refine D3 mixed (by kernel_rfl) ap (kh (a2i (ds:=[V6 q.Id,V3 s x y,V3 B C D]) C8 u m0 u u) ?_)
    obtain⟨bh,aw,ax⟩:=ob ar
    refine kc b8s (fun _ _ ay R=>(a2S F) ay.enter0 ah (ai.mono R) (aj.mono R) aw) (kv (y3 u) (km u (bt ax (fun c G=>?_) (fun c G=>?_))))
    ·refine kn c (kn c (kn c ?_))
     iterate 9 refine ku ?_
     refine kn c (kv (L1 u c u) (A3 ?_))
     rintro bi ⟨az,aA,aB⟩
     cases oi G
     exact qd ⟨az,u,aA.s,aB⟩
    refine kg c (i4 u) (kg c (E9 u u) (kg c (i4 u) (bt G (fun d H=>?_) (fun d H=>?_))))
    ·refine kg d (i4 u) (kg d (i4 u) (kg d (I8 u u) ?_))
     obtain⟨aC,aD,aE⟩:=ob H
     refine A8 (t:=E5) (wg u u d) u underlying40 C8 u u (f.mono i) aD fun aF aG bj aH aI=>?_
     obtain⟨aJ,aK,aL,aM,aN,aO,rfl,bk,bl,bm⟩:=aH
     have aP:D7 _ aF aG [V6 aC.Id,V3 aJ aK aL,V3 aM aN aO]:=aI
     refine kg d (c7 T9 u) (kgh d (z7 G4 u (aP 0 _ u)) (kg d (c7 T9 u) (kgh d (u9 G4 u m0 u) (kg d (a2y u u) (kg c (q8 u d u) (kv (m9 u c u) (A3 ?_)))))))
     rintro bn ⟨aQ,aR,aS⟩
     cases oi aE
     exact qd ⟨aQ,u,aR.s,aS⟩
    iterate 9 refine kn d ?_
    refine kg c (X8 u d u) (kv (m9 u c u) (A3 ?_))
    rintro bo ⟨aT,aU,aV⟩
    cases oi H
    exact qd ⟨aT,u,aU.s,aV⟩
   rintro _ bp ⟨S,rfl,T,aW⟩
   refine l4 (D0 au u (fun aX I=>?_) (fun aX I=>?_))
   ·refine sr (lv (M7 u) (nq (l7 (j4 (g6 (g6 ?_))))))
    cases oi I
    cases aa _ u
    refine j4 (g6 ?_)
    cases oi J
    refine g6 ?_
    cases oi k
    exact ey results44 ⟨S,u,T⟩
   refine i8 (q7 (qg (lv (u3 u u (x9 hi23 (b7.max f))) (mv u (i5 ?_)))))
   cases oi I
   exact qd ⟨_,u,S,u,T,(i.trans aW)⟩
  rintro O _ X aY ⟨o,rfl,l,i⟩
  subst aY
  refine sr (lv (o4 u u) (ns (y4 u (c6 (by omega)) (p9 (c9 (c9 (j7 ?_)))))))
  cases oi J
  exact qd ⟨_,o,u,u,l,i⟩
 rintro _ bq ⟨s8,K9,rfl,rfl,ba,bb⟩
 have k:=D9 k
 refine qr (mv u (lv (p7 underlying40 u (f.mono bb)) (lv (U4 u u) (av u (nq (l7 ?_))))))
 cases oi k
 exact ey results44 ⟨K9,u,ba⟩

theorem a2U {q0:UInt8}{r:UInt8}(hS:SH w K [] w K [])(hm:T7 F q0=some r):
  Calls prog 101 #[iv8 q0] w fun e w'=>∃K',e= .returned (iv8 r)∧SH w K [] w' K' []:=by
 rw [T7] at hm
 refine ci func101 u ntmps101 (sr (lv (r4 (v:=iv8 0) u) (ns (n9 ?_))))
 obtain⟨k,l,m⟩:=ob hm
 refine j9 (IV w K [] K [(0,iv8 q0),(8,.bool k)] []) ?_ ?_
 ·refine j3 (mv u (lv (a4w (b:=(65:UInt8)) u u) (mv u (bt l (fun a c=>?_) (fun a c=>?_)))))
  ·refine lg a (i4 u) (lg a (a4x (b:=(90:UInt8)) u u) (lv (q8 u a u) (i5 ?_)))
   cases oi c
   exact qd ⟨K,u,hS,kr⟩
  refine lu a (lu a (lv (X8 u a u) (i5 ?_)))
  cases oi c
  exact qd ⟨K,u,hS,kr⟩
 rintro _ q ⟨f,rfl,i,s⟩
 refine l4 (D0 m u (fun o d=>?_) (fun o d=>?_))
 ·refine sr (mv u (lv (b3U (b:=(97:UInt8)) u u) (lv (b7A (b:=(65:UInt8)) u u) (av u (nq (rr ?_))))))
  cases oi d
  exact ey results101 ⟨f,u,i⟩
 refine i8 (qr (mv u (av u (nq (l7 ?_)))))
 cases oi d
 exact ey results101 ⟨f,u,i⟩

theorem a1Z {q0:l3}{r:(List M3)}(hS:SH w K [] w K [])(aI:q0.length≤maxLen)(hm:O0 F q0=some r):
  Calls prog 53 #[sv q0] w fun e w'=>∃a_1 n_2 c_3 K',e= .returned (V3 a_1 n_2 c_3)∧SH w K [] w' K' [tail (V3 a_1 n_2 c_3) 114 4]∧b7 a2W K' a_1 n_2 c_3 r:=by
 rw [O0] at hm
 refine ci func53 u ntmps53 (sr (lv (r_n u) (nr (b0 a2W underlying110 a0p hS fun a2 w3 K4 cp an ao=>(av u (Q9 (mv u ?_)))))))
 obtain⟨r8,aJ,aK⟩:=ob hm
 refine lk b62 (a1b F ao.enter0 aI aJ) ?_
 rintro cr ct ⟨J,rfl,W⟩
 have ap:=(ao.c0 W).t1
 refine lv (y3 u) (nq (D0 aK u (fun aL X=>?_) (fun aL X=>?_)))
 ·refine sr (mv u (av u (nq (rr ?_))))
  cases oi X
  exact ey results53 ⟨a2,0,0,J,u,ap,(an.mono W.le)⟩
 refine i8 (qs (sr (lv (R1 u) (nq ?_))))
 obtain⟨aM,aN,aO⟩:=ob X
 refine j9 (fun E' w'=>∃A B C D,E'=[(3,V3 A B C)]∧SH w K [] w' D [tail (V3 A B C) 114 4]∧H7 J D∧b7 a2W D A B C aM) ?_ ?_
 ·refine i7 ?_
  obtain⟨cu,aP,aQ⟩:=ob aN
  refine qw (fun (a:(List M3)×Int) E' w'=>∃c d f G,E'=[(0,sv q0),(3,V3 c d f),(4,V6 a.2)]∧SH w K [] w' G [tail (V3 c d f) 114 4]∧H7 J G∧b7 a2W G c d f a.1∧j5 a.2) aP ⟨a2,0,0,J,u,ap,kr,(an.mono W.le),R3⟩ ?_
  rintro a _ cv cw aR aS ⟨c,d,f,G,rfl,Y,aa,H,aq⟩
  refine n9 (sr (mv u (mv u (lv (F6 underlying9 u) (lv (o4 u u) (nq (D0 aR u (fun aT ab=>?_) (fun aT ab=>?_))))))))
  ·refine i8 (l4 (i7 (n9 (sr (mv u (mv u ?_))))))
   obtain⟨cx,aU,aV⟩:=ob ab
   refine lv (I7 underlying9 u u aU) ?_
   obtain⟨cy,aW,aX⟩:=ob aV
   refine lk b5C (a2U F Y.enter0 aW) ?_
   rintro cz cA ⟨cB,rfl,o⟩
   have ar:=(Y.c0 o).t1
   obtain⟨cC,aY,aZ⟩:=ob aX
   refine lk b61 (a0l F ar.enter0 aY) ?_
   rintro cD cE ⟨ba,rfl,q⟩
   have au:=(ar.c0 q).t1
   refine lv (y3 u) (nq (D0 aZ u (fun bb ac=>?_) (fun bb ac=>?_)))
   ·refine sr (mv u (lv (u6 u u) (av u (nq (p9 (c9 (j7 ?_)))))))
    cases oi ac
    exact qd ⟨_,u,c,d,f,ba,u,au,((aa.trans o.le).trans q.le),(H.mono (o.le.trans q.le)),(s6 _)⟩
   refine i8 (qr (mv u (lv (p7 underlying110 u (H.mono (o.le.trans q.le))) (mv u (lv (C4 (cs:=#[sv [],V6 (a.1.length:Int),V6 a.2,V6 0]) b8b a0p u (by kernel_rfl)) (al a0p au fun s cF bc=>?_))))))
   have bd:SH _ _ _ _ _ [r5 s [sv [],V6 0,V6 0,V6 0] 114,_]:=bc
   refine ls [sv [],V6 (a.1.length:Int),V6 a.2,V6 0] (.agg #[sv [],V6 (a.1.length:Int),V6 a.2,V6 0]) a0p bd fun cG be=>(nr (b0 tU8 underlying50 tf5 be fun bf cH ad aw bg bh=>(av u (ns ?_))))
   obtain⟨b,bi,bj⟩:=ob ac
   refine j9 (fun E' w'=>∃O R S T,E'=[(0,sv q0),(3,V3 c d f),(4,V6 b.1),(5,pt s),(6,V3 O R S)]∧SH w K [] w' T [r5 s [sv [],V6 (a.1.length:Int),V6 a.2,V6 0] 114,tail (V3 c d f) 114 4,tail (V3 O R S) 5 1]∧H7 ad T∧j5 b.1∧b7 tU8 T O R S b.2) ?_ ?_
   ·refine i7 ?_
    obtain⟨cI,bk,bl⟩:=ob bi
    refine qw (fun (I:Int×(List UInt8)) E' w'=>∃k l m y,E'=[(0,sv q0),(3,V3 c d f),(4,V6 I.1),(5,pt s),(6,V3 k l m)]∧SH w K [] w' y [r5 s [sv [],V6 (a.1.length:Int),V6 a.2,V6 0] 114,tail (V3 c d f) 114 4,tail (V3 k l m) 5 1]∧H7 ad y∧j5 I.1∧b7 tU8 y k l m I.2) bk ⟨bf,0,0,ad,u,bh.f2.f2,kr,aq,bg⟩ ?_
    rintro I _ cJ cK bm bn ⟨k,l,m,y,rfl,ae,af,bo,U⟩
    refine n9 (n9 ?_)
    obtain⟨bp,bq,br⟩:=ob bm
    refine j9 (IV w K [] y [(0,sv q0),(3,V3 c d f),(4,V6 I.1),(5,pt s),(6,V3 k l m),(39,.bool bp)] [r5 s [sv [],V6 (a.1.length:Int),V6 a.2,V6 0] 114,tail (V3 c d f) 114 4,tail (V3 k l m) 5 1]) ?_ ?_
    ·refine j3 (mv u (mv u (lv (F6 underlying9 u) (lv (o4 u u) (mv u (bt bq (fun i ag=>?_) (fun i ag=>?_)))))))
     ·refine lg i (i4 u) (lg i (i4 u) ?_)
      obtain⟨bs,bu,bv⟩:=ob ag
      refine lg i (I7 underlying9 u u bu) ?_
      obtain⟨bx,bz,bA⟩:=ob bv
      refine A7 (wg u u i) u (A6 (vs:=[iv8 bs]) b5C u) (a2U F ae.enter0 bz) ?_
      rintro cL cM ⟨cN,rfl,ax⟩
      refine⟨_,u,?_⟩
      have ay:=(ae.c0 ax).t3
      obtain⟨cO,bB,bC⟩:=ob bA
      refine A7 (wg u u i) u (A6 (vs:=[iv8 bx]) b61 u) (a0l F ay.enter0 bB) ?_
      rintro cP cQ ⟨bD,rfl,az⟩
      refine⟨_,u,?_⟩
      have bE:=(ay.c0 az).t3
      refine lv (q8 u i u) (i5 ?_)
      cases oi bC
      exact qd ⟨bD,u,bE,(ax.le.trans az.le)⟩
     iterate 5 refine lu i ?_
     refine lv (X8 u i u) (i5 ?_)
     cases oi ag
     exact qd ⟨y,u,ae,kr⟩
    rintro _ cR ⟨aA,rfl,V,x⟩
    refine l4 (D0 br u (fun bF ah=>?_) (fun bF ah=>?_))
    ·refine i8 (l4 (i7 (n9 (sr (mv u (lv (p7 underlying50 u (U.mono x)) (lv (o4 u u) (nq (D0 ah u (fun bG ai=>?_) (fun bG ai=>?_))))))))))
     ·refine j3 (mv u (mv u (mv u ?_)))
      obtain⟨cS,bH,bI⟩:=ob ai
      refine lv (I7 underlying9 u u bH) ?_
      obtain⟨aj,bJ,bK⟩:=ob bI
      refine lk b5C (a2U F V.enter0 bJ) ?_
      rintro cT cU ⟨cV,rfl,ak⟩
      have bL:=(V.c0 ak).t3
      refine lb tU8 (iv8 aj) [iv8 aj] aj underlying50 tf5 u bL fun cW cX cY aB bM bN=>?_
      obtain⟨cZ,bO,bP⟩:=ob bK
      refine lp underlying50 tf5 (U.mono ((x.trans ak.le).trans aB)) bM bO bN.f3 fun bQ bR bS da bT bU bV bW=>(av u (nq (j3 (mv u (lv (u6 u u) (av u (nb ?_)))))))
      cases oi bP
      exact qd ⟨_,u,bQ,bR,bS,bT,u,bW.f3.f3.s,((((af.trans x).trans ak.le).trans aB).trans bU),(s6 _),bV⟩
     refine i8 (l4 (j3 (mv u (lv (u6 u u) (av u (nb ?_))))))
     cases oi ai
     exact qd ⟨_,u,k,l,m,aA,u,V,(af.trans x),(s6 _),(U.mono x)⟩
    refine p9 (c9 (c9 ?_))
    cases oi ah
    cases bn _ u
    refine j7 ?_
    cases oi bl
    exact qd ⟨k,l,m,aA,u,V,(af.trans x),bo,(U.mono x)⟩
   rintro _ db ⟨O,R,S,T,rfl,aC,aD,aE,aF⟩
   refine qr (mv u (lv (b6i underlying50 underlying5 underlying9 u aF aC) (mv u (fa a5S u (ls [sv b.2,V6 (a.1.length:Int),V6 a.2,V6 0] (sv b.2) D8 aC fun dc bX=>(fa b0m u (ls [sv b.2,V6 (a.1.length:Int),V6 a.2,V6 b.1] (V6 b.1) G4 bX fun dd aG=>(nq (j3 ?_)))))))))
   refine mv u (lv (s7 (ds:=[sv b.2,V6 (a.1.length:Int),V6 a.2,V6 b.1]) a0p u m0 aG u u) (lb a2W (.agg #[sv b.2,V6 (a.1.length:Int),V6 a.2,V6 b.1]) [sv b.2,V6 (a.1.length:Int),V6 a.2,V6 b.1] (M3.mk b.2 (a.1.length:Int) a.2 b.1) underlying110 a0p ⟨u,(b7.max aF),(H.mono (o.le.trans q.le)).rn,aq,aE⟩ aG fun de df dg aH bY bZ=>?_))
   obtain⟨dh,ca,cb⟩:=ob bj
   refine lp underlying110 a0p (b7.mono ((((o.le.trans q.le).trans aw).trans aD).trans aH) H) bY ca bZ.f2 fun cc cd ce di cf cg ch cj=>(av u (nb ?_))
   cases oi cb
   exact qd ⟨_,u,cc,cd,ce,cf,u,cj.s,((((((aa.trans o.le).trans q.le).trans aw).trans aD).trans aH).trans cg),ch,aE⟩
  refine p9 (c9 (c9 ?_))
  cases oi ab
  cases aS _ u
  refine j7 ?_
  cases oi aQ
  exact qd ⟨c,d,f,G,u,Y,aa,H⟩
 rintro _ dj ⟨A,B,C,D,rfl,ck,dk,cl⟩
 refine qr (mv u (av u (nq (l7 ?_))))
 cases oi aO
 exact ey results53 ⟨A,B,C,D,u,ck,cl⟩

theorem a4l {q0:l3}{r:Bool}(hS:SH w K [] w K [])(A:q0.length≤maxLen)(hm:W3 F q0=some r):
  Calls prog 190 #[sv q0] w (R_b w K r):=by
 rw [W3] at hm
 refine ci func190 u ntmps190 (sr (lv (M7 u) (Q9 (mv u (lv (F6 underlying9 u) (lv (r_m u) (nq ?_)))))))
 obtain⟨I,J,d⟩:=ob hm
 refine j9 (IE I w K [] K [(0,sv q0)] []) ?_ ?_
 ·refine i7 ?_
  obtain⟨ao,O,B⟩:=ob J
  refine qf (fun (k:Nat) (C:Unit)=>IV w K [] K [(0,sv q0),(5,V6 (q0.length:Int)),(6,V6 ((k:Nat):Int))] []) O ⟨K,u,hS,kr⟩ ?_ ?_
  ·rintro k C _ R ap hi21 S T ⟨l,rfl,f,m⟩
   refine sr (lv (o4 u u) (ns (y5 u (b8 (by omega)) (i8 (l4 (n9 (i7 (sr (mv u (av u (ns ?_)))))))))))
   obtain⟨U,V,W⟩:=ob S
   refine j9 (IV w K [] l [(0,sv q0),(5,V6 (q0.length:Int)),(6,V6 ((k:Nat):Int)),(25,.bool U)] []) ?_ ?_
   ·refine j3 (mv u (mv u ?_))
    obtain⟨aq,X,Y⟩:=ob V
    refine lv (I7 underlying9 u u X) ?_
    obtain⟨ar,aa,ab⟩:=ob Y
    refine lk b61 (a0l F f.enter0 aa) ?_
    rintro au aw ⟨o,rfl,i⟩
    have q:=(f.c0 i).t0
    refine lv (y3 u) (mv u (bt ab (fun a s=>?_) (fun a s=>?_)))
    ·refine lg a (i4 u) (lg a (i4 u) ?_)
     obtain⟨ax,ac,ad⟩:=ob s
     refine lg a (I7 underlying9 u u ac) (lg a (a8W (b:=(42:UInt8)) u u) (lv (q8 u a u) (mv u (bt ad (fun c x=>?_) (fun c x=>?_)))))
     ·refine lg c (i4 u) (lg c (i4 u) ?_)
      obtain⟨ay,ae,af⟩:=ob x
      refine lg c (I7 underlying9 u u ae) (lg c (a8W (b:=(63:UInt8)) u u) (lv (q8 u c u) (i5 ?_)))
      cases oi af
      exact qd ⟨o,u,q,i.le⟩
     refine lu c (lu c (lu c (lu c (lv (X8 u c u) (i5 ?_)))))
     cases oi x
     exact qd ⟨o,u,q,i.le⟩
    refine lu a (lu a (lu a (lu a (lv (X8 u a u) (mv u (lu u (lu u (lu u (lu u ?_)))))))))
    refine lv (X8 u u u) (i5 ?_)
    cases oi s
    exact qd ⟨o,u,q,i.le⟩
   rintro _ az ⟨D,rfl,G,ag⟩
   refine l4 (D0 W u (fun ah y=>?_) (fun ah y=>?_))
   ·refine sr (lv (M7 u) (nq (l7 (j4 (g6 (g6 ?_))))))
    cases oi y
    cases T _ u
    refine j4 (g6 ?_)
    cases oi B
    refine g6 ?_
    cases oi d
    exact ey results190 ⟨D,u,G⟩
   refine i8 (q7 (qg (lv (u3 u u (x9 hi21 A)) (mv u (i5 ?_)))))
   cases oi y
   exact qd ⟨_,u,D,u,G,(m.trans ag)⟩
  rintro C _ R ai ⟨l,rfl,f,m⟩
  subst ai
  refine sr (lv (o4 u u) (ns (y4 u (c6 (by omega)) (p9 (c9 (c9 (j7 ?_)))))))
  cases oi B
  exact qd ⟨_,l,u,u,f,m⟩
 rintro _ w9 ⟨s5,K6,rfl,rfl,H,aD⟩
 have d:=D9 d
 refine qr (mv u (lv (F6 underlying9 u) ?_))
 obtain⟨aE,aj,ak⟩:=ob d
 refine lk a19 (z6 F H.enter0 (a2L A) (by decide :j5 1) (by decide :j5 12) aj) ?_
 rintro aF aG ⟨al,rfl,am⟩
 have an:=(H.c0 am).t0
 refine av u (nq (l7 ?_))
 cases oi ak
 exact ey results190 ⟨al,u,an⟩

theorem a8A (F:Nat): ∀{w:World} {K:C7} {k:Option Addr} {l o:Nat} {x:Option Addr} {y A:Nat} {gb14:Nat} {q0:B5} {q1:Int} {r:Bool} (hS:SH w K [] w K []) (bH:j5 q0.Kind) (bj:q0.Field.length≤maxLen) (W:b7 B3 K k l o q0.Words) (aB:j5 q0.From) (bk:j5 q0.To) (X:b7 a1l K x y A q0.Kids) (bI:j5 q1) (hG15:a73 J3 0 gb14 P2 w) (hm:D6 F q0 q1=some r),
  Calls prog 145 #[.agg #[V6 q0.Kind,sv q0.Field,V3 k l o,V6 q0.From,V6 q0.To,V3 x y A],V6 q1] w (R_b w K r):=by
 induction F with
 | zero=>intros;rename_i hm;rw [D6] at hm;cases hm
 | succ F ih=>
  intro w K k l o x y A gb14 q0 q1 r hS bH bj W aB bk X bI hG15 hm
  rw [D6] at hm
  refine ci func145 u ntmps145 (sr (bx u hS fun d dB bJ=>?_))
  have ak:SH _ _ _ _ _ [r5 d [V6 q0.Kind,sv q0.Field,V3 k l o,V6 q0.From,V6 q0.To,V3 x y A] 58]:=bJ
  refine lv (M7 u) (nr (lv (b6k b98 u (hG15.keep ak)) (fl a6x u G4 m0 ak u (lv (show RV _ _ _ _ (.tuple #[.agg #[.bool ((s4 q0.Kind).field_),V6 ((s4 q0.Kind).leastWords_),V6 ((s4 q0.Kind).mostWords_),V6 ((s4 q0.Kind).low_),V6 ((s4 q0.Kind).high_),.bool ((s4 q0.Kind).ranged_),V6 ((s4 q0.Kind).leastKids_),V6 ((s4 q0.Kind).mostKids_)],.bool (E8 q0.Kind)]) from b6l (cells:=J3) (m:=P2) underlying254 underlying3 b6H u u (hG15.keep ak) c0H) (mv u (lv (B6 u u) (lv (B6 u u) (al b6H ak fun af dC bK=>?_))))))))
  have bL:SH _ _ _ _ _ [r5 af [.bool false,V6 0,V6 0,V6 0,V6 0,.bool false,V6 0,V6 0] 252,_]:=bK
  refine lw [.bool ((s4 q0.Kind).field_),V6 ((s4 q0.Kind).leastWords_),V6 ((s4 q0.Kind).mostWords_),V6 ((s4 q0.Kind).low_),V6 ((s4 q0.Kind).high_),.bool ((s4 q0.Kind).ranged_),V6 ((s4 q0.Kind).leastKids_),V6 ((s4 q0.Kind).mostKids_)] b6H bL fun dD C=>(av u (ns (n9 ?_)))
  obtain⟨bM,bN,bO⟩:=ob hm
  refine j9 (IV w K [] K [(1,V6 q1),(2,pt d),(5,pt af),(41,.bool bM)] [r5 d [V6 q0.Kind,sv q0.Field,V3 k l o,V6 q0.From,V6 q0.To,V3 x y A] 58,r5 af [.bool ((s4 q0.Kind).field_),V6 ((s4 q0.Kind).leastWords_),V6 ((s4 q0.Kind).mostWords_),V6 ((s4 q0.Kind).low_),V6 ((s4 q0.Kind).high_),.bool ((s4 q0.Kind).ranged_),V6 ((s4 q0.Kind).leastKids_),V6 ((s4 q0.Kind).mostKids_)] 252]) ?_ ?_
  ·refine j3 (mv u (lv (y3 u) (mv u (bt bN (fun U aC=>?_) (fun U aC=>?_)))))
   ·refine lu U (lu U (lv (L1 u U u) (mv u ?_)))
    iterate 6 refine lu u ?_
    refine lv (L1 u u u) (mv u (lu u (lu u (lu u (D4 (uu u u) u (D4 (uu u u) u (D4 (uu u u) u (D4 (uu u u) u (lu u ?_)))))))))
    refine lv (L1 u u u) (i5 ?_)
    cases oi aC
    exact qd ⟨K,u,C.f1,kr⟩
   refine lg U (i4 u) (lg U (o4 u u) (lv (m9 u U u) (mv u (bt aC (fun D aD=>?_) (fun D aD=>?_)))))
   ·iterate 6 refine lu D ?_
    refine lv (L1 u D u) (mv u (lu u (lu u (lu u (D4 (uu u u) u (D4 (uu u u) u (D4 (uu u u) u (D4 (uu u u) u (lu u ?_)))))))))
    refine lv (L1 u u u) (i5 ?_)
    cases oi aD
    exact qd ⟨K,u,C.f1,kr⟩
   refine lg D (c7 b3u u) (lg D (x8 tf4 u m0 C u) (lg D (c7 a2O u) (lg D (x8 D8 u m1 C u) (lg D (X9 (r:=([]:l3)) u u) (lg D (a90 underlying4 u u) (lv (m9 u D u) (mv u (bt aD (fun f aE=>?_) (fun f aE=>?_)))))))))
   ·refine lu f (lu f (lu f (D4 (uu u u) u (D4 (uu u u) u (D4 (uu u u) u (D4 (uu u u) u (lu f (lv (L1 u f u) (i5 ?_)))))))))
    cases oi aE
    exact qd ⟨K,u,C.f1,kr⟩
   refine lg f (c7 b3u u) (lg f (x8 tf4 u m0 C u) (lg f (i4 u) (bt aE (fun B aF=>?_) (fun B aF=>?_))))
   ·refine lg B (c7 a2O u) (lg B (x8 D8 u m1 C u) ?_)
    obtain⟨dE,bP,bQ⟩:=ob aF
    refine A7 (wg u u B) u (A6 (vs:=[sv q0.Field]) a5l u) (D2 F C.enter0 bj bP) ?_
    rintro dF dG ⟨bR,rfl,bl⟩
    refine⟨_,u,?_⟩
    have bS:=(C.c0 bl).t2
    refine lg B (y3 u) (lg f (q8 u B u) (lv (m9 u f u) (i5 ?_)))
    cases oi bQ
    exact qd ⟨bR,u,bS.f1,bl.le⟩
   refine lu B (lu B (lu B (lu B (lg f (X8 u B u) (lv (m9 u f u) (i5 ?_))))))
   cases oi aF
   exact qd ⟨K,u,C.f1,kr⟩
  rintro _ dH ⟨bm,rfl,Y,G⟩
  refine l4 (D0 bO u (fun bT aG=>?_) (fun bT aG=>?_))
  ·refine sr (lv (M7 u) (nq (rr ?_)))
   cases oi aG
   exact ey results145 ⟨bm,u,Y.s⟩
  refine i8 (qs (n9 ?_))
  obtain⟨bU,bV,bW⟩:=ob aG
  refine j9 (IV w K [] bm [(1,V6 q1),(2,pt d),(5,pt af),(71,.bool bU)] [r5 d [V6 q0.Kind,sv q0.Field,V3 k l o,V6 q0.From,V6 q0.To,V3 x y A] 58,r5 af [.bool ((s4 q0.Kind).field_),V6 ((s4 q0.Kind).leastWords_),V6 ((s4 q0.Kind).mostWords_),V6 ((s4 q0.Kind).low_),V6 ((s4 q0.Kind).high_),.bool ((s4 q0.Kind).ranged_),V6 ((s4 q0.Kind).leastKids_),V6 ((s4 q0.Kind).mostKids_)] 252]) ?_ ?_
  ·refine j3 (fl a6y u W1 m0 Y u (lv (p7 underlying22 u (W.mono G)) (fl b7c u G4 m1 Y u (fl b7e u G4 m1 Y u ?_))))
   obtain⟨dI,bX,bY⟩:=ob bV
   refine lk a19 (z6 F Y.enter0 (W.mono G).rn (b8A _) (b8B _) bX) ?_
   rintro dJ dK ⟨bZ,rfl,aa⟩
   have ab:=(Y.c0 aa).t2
   refine lv (y3 u) (mv u (bt bY (fun i aH=>?_) (fun i aH=>?_)))
   ·iterate 9 refine lu i ?_
    refine lv (L1 u i u) (mv u ?_)
    iterate 8 refine lu u ?_
    refine lv (L1 u u u) (i5 ?_)
    cases oi aH
    exact qd ⟨bZ,u,ab,aa.le⟩
   refine lg i (c7 a6A u) (lg i (x8 b5i u m0 ab u) (lg i (p7 underlying56 u (X.mono (G.trans aa.le))) (lg i (c7 b7i u) (lg i (x8 G4 u m1 ab u) (lg i (c7 b7j u) (lg i (x8 G4 u m1 ab u) ?_))))))
   obtain⟨dL,ca,cb⟩:=ob aH
   refine A7 (wg u u i) u (A6 (vs:=[V6 (q0.Kids.length:Int),V6 ((s4 q0.Kind).leastKids_),V6 ((s4 q0.Kind).mostKids_)]) a19 u) (z6 F ab.enter0 (X.mono (G.trans aa.le)).rn (b8E _) (b8F _) ca) ?_
   rintro dM dN ⟨cc,rfl,aI⟩
   refine⟨_,u,?_⟩
   have ac:=(ab.c0 aI).t2
   refine lg i (y3 u) (lv (m9 u i u) (mv u (bt cb (fun q aJ=>?_) (fun q aJ=>?_))))
   ·iterate 8 refine lu q ?_
    refine lv (L1 u q u) (i5 ?_)
    cases oi aJ
    exact qd ⟨cc,u,ac,(aa.le.trans aI.le)⟩
   refine lg q (c7 a6z u) (lg q (x8 G4 u m0 ac u) (lg q (c7 b7g u) (lg q (x8 G4 u m1 ac u) (lg q (c7 b7h u) (lg q (x8 G4 u m1 ac u) ?_)))))
   obtain⟨dO,cd,ce⟩:=ob aJ
   refine A7 (wg u u q) u (A6 (vs:=[V6 q0.From,V6 ((s4 q0.Kind).low_),V6 ((s4 q0.Kind).high_)]) a19 u) (z6 F ac.enter0 aB (b8C _) (b8D _) cd) ?_
   rintro dP dQ ⟨cf,rfl,bn⟩
   refine⟨_,u,?_⟩
   have cg:=(ac.c0 bn).t2
   refine lg q (y3 u) (lv (m9 u q u) (i5 ?_))
   cases oi ce
   exact qd ⟨cf,u,cg,((aa.le.trans aI.le).trans bn.le)⟩
  rintro _ dR ⟨am,rfl,H,ad⟩
  refine l4 (D0 bW u (fun ch aK=>?_) (fun ch aK=>?_))
  ·refine sr (lv (M7 u) (nq (rr ?_)))
   cases oi aK
   exact ey results145 ⟨am,u,H.s⟩
  refine i8 (qs (n9 ?_))
  obtain⟨cj,ck,cl⟩:=ob aK
  refine j9 (IV w K [] am [(1,V6 q1),(2,pt d),(91,.bool cj)] [r5 d [V6 q0.Kind,sv q0.Field,V3 k l o,V6 q0.From,V6 q0.To,V3 x y A] 58]) ?_ ?_
  ·refine j3 (fl b0p u tf4 m1 H u (mv u (bt ck (fun I aL=>?_) (fun I aL=>?_))))
   ·refine lg I (c7 b0r u) (lg I (x8 G4 u m0 H u) (lg I (c7 a6z u) (lg I (x8 G4 u m0 H u) ?_)))
    obtain⟨dS,cm,cn⟩:=ob aL
    refine A7 (wg u u I) u (A6 (vs:=[V6 q0.To,V6 q0.From,V6 999999999]) a19 u) (z6 F H.enter0 bk aB (by decide :j5 999999999) cm) ?_
    rintro dT dU ⟨aM,rfl,an⟩
    refine⟨_,u,?_⟩
    have ag:=(H.c0 an).t2
    refine lg I (y3 u) (lv (q8 u I u) (mv u (bt cn (fun a aN=>?_) (fun a aN=>?_))))
    ·refine lu a (lu a (lu a (lu a (D4 (uu u u) u (D4 (uu u u) u (D4 (uu u u) u (lu a (lv (L1 u a u) (i5 ?_)))))))))
     cases oi aN
     exact qd ⟨aM,u,ag.s,an.le⟩
    refine lg a (c7 b0p u) (lg a (x8 tf4 u m1 ag u) (lg a (y3 u) (lg a (i4 u) (bt aN (fun O aO=>?_) (fun O aO=>?_)))))
    ·refine lg O (c7 b0r u) (lg O (x8 G4 u m0 ag u) (lg O (U5 u u) (lg a (q8 u O u) (lv (m9 u a u) (i5 ?_)))))
     cases oi aO
     exact qd ⟨aM,u,ag.s,an.le⟩
    refine lu O (lu O (lu O (lg a (X8 u O u) (lv (m9 u a u) (i5 ?_)))))
    cases oi aO
    exact qd ⟨aM,u,ag.s,an.le⟩
   iterate 6 refine lu I ?_
   refine lv (X8 u I u) (mv u (lg u (c7 b0p u) (lg u (x8 tf4 u m1 H u) (lg u (y3 u) (lg u (i4 u) (bt aL (fun R aP=>?_) (fun R aP=>?_)))))))
   ·refine lg R (c7 b0r u) (lg R (x8 G4 u m0 H u) (lg R (U5 u u) (lg u (q8 u R u) (lv (m9 u u u) (i5 ?_)))))
    cases oi aP
    exact qd ⟨am,u,H.s,kr⟩
   refine lu R (lu R (lu R (lg u (X8 u R u) (lv (m9 u u u) (i5 ?_)))))
   cases oi aP
   exact qd ⟨am,u,H.s,kr⟩
  rintro _ dV ⟨ao,rfl,aQ,ae⟩
  refine l4 (D0 cl u (fun cp aR=>?_) (fun cp aR=>?_))
  ·refine sr (lv (M7 u) (nq (rr ?_)))
   cases oi aR
   exact ey results145 ⟨ao,u,aQ.s⟩
  refine i8 (qs (sr (fl a6y u W1 m0 aQ u (lv (p7 underlying22 u (W.mono ((G.trans ad).trans ae))) (lv (r_m u) (nq ?_))))))
  obtain⟨cq,cr,ap⟩:=ob aR
  refine j9 (IE cq w K [] ao [(1,V6 q1),(2,pt d)] [r5 d [V6 q0.Kind,sv q0.Field,V3 k l o,V6 q0.From,V6 q0.To,V3 x y A] 58]) ?_ ?_
  ·refine i7 ?_
   obtain⟨dW,cs,bo⟩:=ob cr
   refine qf (fun (aS:Nat) (bp:Unit)=>IV w K [] ao [(1,V6 q1),(2,pt d),(93,V3 k l o),(94,V6 (q0.Words.length:Int)),(95,V6 ((aS:Nat):Int))] [r5 d [V6 q0.Kind,sv q0.Field,V3 k l o,V6 q0.From,V6 q0.To,V3 x y A] 58]) cs ⟨ao,u,aQ,kr⟩ ?_ ?_
   ·rintro aS bp _ ct dX hi150 cu cv ⟨aq,rfl,J,ar⟩
    refine sr (lv (o4 u u) (ns (y5 u (b8 (by omega)) (i8 (l4 (n9 (i7 (sr ?_))))))))
    obtain⟨ah,cw,cx⟩:=ob cu
    refine li underlying22 D8 (b7.mono (((G.trans ad).trans ae).trans ar) W) cw fun cy cz dY cA cB=>?_
    obtain⟨rfl,au⟩:=cA
    have cC:D7 _ cy cz [sv ah]:=cB
    refine lv (z2 D8 u J (cC 0 _ u)) (av u (ns ?_))
    obtain⟨cD,cE,cF⟩:=ob cx
    refine j9 (IV w K [] aq [(1,V6 q1),(2,pt d),(93,V3 k l o),(94,V6 (q0.Words.length:Int)),(95,V6 ((aS:Nat):Int)),(120,.bool cD)] [r5 d [V6 q0.Kind,sv q0.Field,V3 k l o,V6 q0.From,V6 q0.To,V3 x y A] 58]) ?_ ?_
    ·refine j3 (fl a6x u G4 m0 J u (lv (F7 u u) (mv u (bt cE (fun b aT=>?_) (fun b aT=>?_)))))
     ·refine lg b (i4 u) ?_
      obtain⟨dZ,cG,cH⟩:=ob aT
      refine A7 (wg u u b) u (A6 (vs:=[sv ah]) b72 u) (a4l F J.enter0 au cG) ?_
      rintro ea eb ⟨cI,rfl,ai⟩
      refine⟨_,u,?_⟩
      have aU:=(J.c0 ai).t1
      refine lg b (y3 u) (lg b (i4 u) (bt cH (fun V aV=>?_) (fun V aV=>?_)))
      ·refine lu V (lu V (lg b (L1 u V u) (lv (q8 u b u) (mv u (lu u (lu u (lu u (lu u (D4 (uu u u) u ?_)))))))))
       refine D4 (uu u u) u (D4 (uu u u) u (lu u (lv (L1 u u u) (i5 ?_))))
       cases oi aV
       exact qd ⟨cI,u,aU,ai.le⟩
      refine lg V (i4 u) ?_
      obtain⟨ec,cJ,cK⟩:=ob aV
      refine A7 (wg u u V) u (A6 (vs:=[sv ah]) a5l u) (D2 F aU.enter0 au cJ) ?_
      rintro ed ee ⟨bq,rfl,aw⟩
      refine⟨_,u,?_⟩
      have aj:=(aU.c0 aw).t1
      refine lg b (m9 u V u) (lv (q8 u b u) (mv u (bt cK (fun c aW=>?_) (fun c aW=>?_))))
      ·refine lu c (lu c (lu c (lu c (D4 (uu u u) u (D4 (uu u u) u (D4 (uu u u) u (lu c (lv (L1 u c u) (i5 ?_)))))))))
       cases oi aW
       exact qd ⟨bq,u,aj,(ai.le.trans aw.le)⟩
      refine lg c (c7 a6x u) (lg c (x8 G4 u m0 aj u) (lg c (U5 u u) (lg c (i4 u) (bt aW (fun S aX=>?_) (fun S aX=>?_)))))
      ·refine lg S (i4 u) ?_
       obtain⟨ef,cL,cM⟩:=ob aX
       refine A7 (wg u u S) u (A6 (vs:=[sv ah]) a5l u) (D2 F aj.enter0 au cL) ?_
       rintro eg eh ⟨cN,rfl,br⟩
       refine⟨_,u,?_⟩
       have cO:=(aj.c0 br).t1
       refine lg S (y3 u) (lg c (q8 u S u) (lv (m9 u c u) (i5 ?_)))
       cases oi cM
       exact qd ⟨cN,u,cO,((ai.le.trans aw.le).trans br.le)⟩
      refine lu S (lu S (lu S (lg c (X8 u S u) (lv (m9 u c u) (i5 ?_)))))
      cases oi aX
      exact qd ⟨bq,u,aj,(ai.le.trans aw.le)⟩
     refine lu b (lu b (lu b (lu b (D4 (uu u u) u (D4 (uu u u) u (lu b (lv (X8 u b u) (mv u (lg u (c7 a6x u) ?_)))))))))
     refine lg u (x8 G4 u m0 J u) (lg u (U5 u u) (lg u (i4 u) (bt aT (fun T aY=>?_) (fun T aY=>?_))))
     ·refine lg T (i4 u) ?_
      obtain⟨ei,cP,cQ⟩:=ob aY
      refine A7 (wg u u T) u (A6 (vs:=[sv ah]) a5l u) (D2 F J.enter0 au cP) ?_
      rintro ej ek ⟨cR,rfl,bs⟩
      refine⟨_,u,?_⟩
      have cS:=(J.c0 bs).t1
      refine lg T (y3 u) (lg u (q8 u T u) (lv (m9 u u u) (i5 ?_)))
      cases oi cQ
      exact qd ⟨cR,u,cS,bs.le⟩
     refine lu T (lu T (lu T (lg u (X8 u T u) (lv (m9 u u u) (i5 ?_)))))
     cases oi aY
     exact qd ⟨aq,u,J,kr⟩
    rintro _ el ⟨bu,rfl,bv,cT⟩
    refine l4 (D0 cF u (fun cU aZ=>?_) (fun cU aZ=>?_))
    ·refine sr (lv (M7 u) (nq (l7 (j4 (g6 (g6 ?_))))))
     cases oi aZ
     cases cv _ u
     refine j4 (g6 ?_)
     cases oi bo
     refine g6 ?_
     cases oi ap
     exact ey results145 ⟨bu,u,bv.s⟩
    refine i8 (q7 (qg (lv (u3 u u (x9 hi150 (b7.max (W.mono ((G.trans ad).trans ae))))) (mv u (i5 ?_)))))
    cases oi aZ
    exact qd ⟨_,u,bu,u,bv,(ar.trans cT)⟩
   rintro bp _ ct cV ⟨aq,rfl,J,ar⟩
   subst cV
   refine sr (lv (o4 u u) (ns (y4 u (c6 (by omega)) (p9 (c9 (c9 (j7 ?_)))))))
   cases oi bo
   exact qd ⟨_,aq,u,u,J,ar⟩
  rintro _ em ⟨en,ba,rfl,rfl,bz,bb⟩
  have ap:=D9 ap
  refine qs (sr (fl a6A u b5i m0 bz u (lv (p7 underlying56 u (b7.mono (((G.trans ad).trans ae).trans bb) X)) (lv (r_m u) (nq ?_)))))
  obtain⟨cW,cX,ax⟩:=ob ap
  refine j9 (IE cW w K [] ba [] []) ?_ ?_
  ·refine i7 ?_
   obtain⟨eo,cY,bA⟩:=ob cX
   have cZ:=bz.sb (sd sz)
   refine qf (fun (bB:Nat) (bC:Unit)=>IV w K [] ba [(1,V6 q1),(123,V3 x y A),(124,V6 (q0.Kids.length:Int)),(125,V6 ((bB:Nat):Int))] []) cY ⟨ba,u,cZ,kr⟩ ?_ ?_
   ·rintro bB bC _ da ep hi237 db dc ⟨bD,rfl,ay,az⟩
    refine sr (lv (o4 u u) (ns (y5 u (b8 (by omega)) (i8 (l4 (n9 (i7 (sr ?_))))))))
    obtain⟨s,dd,de⟩:=ob db
    refine li underlying56 a2C (b7.mono ((((G.trans ad).trans ae).trans bb).trans az) X) dd fun df dg eq dh di=>?_
    obtain⟨bc,bd,be,bf,bg,bh,rfl,dj,dk,dl,dm,dn,dp⟩:=a0H dh
    have dq:D7 _ df dg [V6 s.Kind,sv s.Field,V3 bc bd be,V6 s.From,V6 s.To,V3 bf bg bh]:=di
    refine lv (C9 a2C u ay dq u) (al a2C ay fun dr es dt=>?_)
    have du:SH _ _ _ _ _ [r5 dr [V6 0,sv [],V3 none 0 0,V6 0,V6 0,V3 none 0 0] 58]:=dt
    refine lw [V6 s.Kind,sv s.Field,V3 bc bd be,V6 s.From,V6 s.To,V3 bf bg bh] a2C du fun et aA=>(nr (lv (s7 (ds:=[V6 s.Kind,sv s.Field,V3 bc bd be,V6 s.From,V6 s.To,V3 bf bg bh]) a2C u m0 aA u u) (mv u (lv (I8 u u) ?_))))
    obtain⟨eu,dv,dw⟩:=ob de
    refine lk b7W (ih aA.enter0 dj dk dl dm dn dp (s6 _) (hG15.keep aA) dv) ?_
    rintro ev ew ⟨bE,rfl,bF⟩
    have bG:=(aA.c0 bF).t1
    refine lv (y3 u) (nq (D0 dw u (fun dx bi=>?_) (fun dx bi=>?_)))
    ·refine sr (lv (M7 u) (nq (l7 (j4 (g6 (g6 ?_))))))
     cases oi bi
     cases dc _ u
     refine j4 (g6 ?_)
     cases oi bA
     refine g6 ?_
     cases oi ax
     exact ey results145 ⟨bE,u,bG.s⟩
    refine i8 (q7 (qg (lv (u3 u u (x9 hi237 (b7.max (b7.mono (((G.trans ad).trans ae).trans bb) X)))) (mv u (i5 ?_)))))
    cases oi bi
    exact qd ⟨_,u,bE,u,bG.s,(az.trans bF.le)⟩
   rintro bC _ da dy ⟨bD,rfl,ay,az⟩
   subst dy
   refine sr (lv (o4 u u) (ns (y4 u (c6 (by omega)) (p9 (c9 (c9 (j7 ?_)))))))
   cases oi bA
   exact I6 ⟨_,bD,u,u,ay,az⟩ trivial
  rintro _ ex ⟨eA,dz,rfl,rfl,dA,eB⟩
  have ax:=D9 ax
  refine qr (lv (r_t u) (nq (l7 ?_)))
  cases oi ax
  exact ey results145 ⟨dz,u,dA⟩

theorem a7s {q0:B5}{r:Bool}(hS:SH w K [] w K [])(k:j5 q0.Kind)(l:q0.Field.length≤maxLen)(m:b7 B3 K A a b q0.Words)(o:j5 q0.From)(q:j5 q0.To)(s:b7 a1l K B c d q0.Kids)(hG14:a73 J3 0 f P2 w)(hm:N9 F q0=some r):
  Calls prog 99 #[.agg #[V6 q0.Kind,sv q0.Field,V3 A a b,V6 q0.From,V6 q0.To,V3 B c d]] w (R_b w K r):=by
 rw [N9] at hm
 refine ci func99 u ntmps99 (sr (bx u hS fun x J y=>?_))
 have i:SH _ _ _ _ _ [r5 x [V6 q0.Kind,sv q0.Field,V3 A a b,V6 q0.From,V6 q0.To,V3 B c d] 58]:=y
 refine lv (M7 u) (nr (lv (s7 (ds:=[V6 q0.Kind,sv q0.Field,V3 A a b,V6 q0.From,V6 q0.To,V3 B c d]) a2C u m0 i u u) ?_))
 obtain⟨O,C,D⟩:=ob hm
 refine lk b7W (a8A F i.enter0 k l m o q s (by decide :j5 4) (hG14.keep i) C) ?_
 rintro R S ⟨G,rfl,H⟩
 have I:=(i.c0 H).t1
 refine av u (nq (l7 ?_))
 cases oi D
 exact ey results99 ⟨G,u,I.s⟩

theorem a1v {q0:u1}{q1:l3}{r:l3}(hS:SH w K [] w K [])(O:j5 q0.Id)(f:b7 F8 K A a b q0.Fields)(R:b7 H5 K B c d q0.Nums)(ay:q1.length≤maxLen)(hm:H6 F q0 q1=some r):
  Calls prog 19 #[.agg #[V6 q0.Id,V3 A a b,V3 B c d],sv q1] w fun e w'=>∃K',e= .returned (sv r)∧SH w K [] w' K' []∧r.length≤maxLen:=by
 rw [H6] at hm
 refine ci func19 u ntmps19 (sr (bx u hS fun S az T=>?_))
 have y:SH _ _ _ _ _ [r5 S [V6 q0.Id,V3 A a b,V3 B c d] 64]:=T
 refine lv (r_s u) (Q9 (lv (s7 (ds:=[V6 q0.Id,V3 A a b,V3 B c d]) C8 u m0 y u u) ?_))
 obtain⟨aA,U,V⟩:=ob hm
 refine lk b8s (a2S F y.enter0 O f R U) ?_
 rintro aB aC ⟨i,rfl,k⟩
 have C:=(y.c0 k).t1
 refine nq (D0 V u (fun W D=>?_) (fun W D=>?_))
 ·refine sr (fl S7 u a3p m0 C u (lv (p7 underlying61 u (f.mono k.le)) (lv (r_m u) (nq ?_))))
  obtain⟨X,Y,l⟩:=ob D
  refine j9 (IE X w K [] i [] []) ?_ ?_
  ·refine i7 ?_
   obtain⟨aD,aa,H⟩:=ob Y
   have ab:=C.sb (sd sz)
   refine qf (fun (I:Nat) (J:Unit)=>IV w K [] i [(1,sv q1),(10,V3 A a b),(11,V6 (q0.Fields.length:Int)),(12,V6 ((I:Nat):Int))] []) aa ⟨i,u,ab,kr⟩ ?_ ?_
   ·rintro I J _ ac aE hi44 ad ae ⟨m,rfl,o,q⟩
    refine sr (lv (o4 u u) (ns (y5 u (b8 (by omega)) (i8 (l4 (n9 (i7 (sr ?_))))))))
    obtain⟨s,af,ag⟩:=ob ad
    refine li underlying61 J6 (f.mono (k.le.trans q)) af fun ah ai aF aj ak=>?_
    obtain⟨rfl,aG,am⟩:=aj
    have an:D7 _ ah ai [sv s.Name,sv s.Text]:=ak
    refine lv (C9 J6 u o an u) (al J6 o fun ao aH ap=>?_)
    have aq:SH _ _ _ _ _ [r5 ao [sv [],sv []] 118]:=ap
    refine lw [sv s.Name,sv s.Text] J6 aq fun aI x=>(nr (fl a1E u D8 m0 x u (mv u (lv (J4 u u) (nq (D0 ag u (fun ar G=>?_) (fun ar G=>?_)))))))
    ·refine sr (fl a5T u D8 m0 x u (av u (nq (l7 (j4 (g6 (g6 ?_)))))))
     cases oi G
     cases ae _ u
     refine j4 (g6 ?_)
     cases oi H
     refine g6 ?_
     cases oi l
     exact ey results19 ⟨m,u,x.s,am⟩
    refine i8 (q7 (qg (lv (u3 u u (x9 hi44 (b7.max (f.mono k.le)))) (mv u (i5 ?_)))))
    cases oi G
    exact qd ⟨_,u,m,u,x.s,q⟩
   rintro J _ ac au ⟨m,rfl,o,q⟩
   subst au
   refine sr (lv (o4 u u) (ns (y4 u (c6 (by omega)) (p9 (c9 (c9 (j7 ?_)))))))
   cases oi H
   exact I6 ⟨_,m,u,u,o,q⟩ trivial
  rintro _ aJ ⟨aK,aw,rfl,rfl,ax,aL⟩
  have l:=D9 l
  refine qr (lv (r_s u) (nq (l7 ?_)))
  cases oi l
  exact ey results19 ⟨aw,u,ax,(by decide :([]:l3).length≤maxLen)⟩
 refine i8 (qr (lv (r_s u) (nq (l7 ?_))))
 cases oi D
 exact ey results19 ⟨i,u,C.s,(by decide :([]:l3).length≤maxLen)⟩

theorem a3R {q0:Int}{q1:Int}{r:Int}(hS:SH w K [] w K [])(l:j5 q0)(m:j5 q1)(hm:S1 F q0 q1=some r):
  Calls prog 240 #[V6 q0,V6 q1] w (R_i w K r):=by
 rw [S1] at hm
 refine ci func240 u ntmps240 (sr (lv (R1 u) (ns ?_)))
 obtain⟨c,o,q⟩:=ob hm
 refine j9 (IW w K [] K [(0,V6 c)] [] (j5 c)) ?_ ?_
 ·refine i7 ?_
  obtain⟨T,s,x⟩:=ob o
  refine qw (fun (a:Int×Int)=>IW w K [] K [(0,V6 a.1),(1,V6 a.2)] [] (j5 a.1∧j5 a.2)) s ⟨K,u,hS,kr,l,m⟩ ?_
  rintro a _ U V y A ⟨B,rfl,d,f,i,C⟩
  refine n9 (sr (mv u (lv (U5 u u) (nq (D0 y u (fun D b=>?_) (fun D b=>?_))))))
  ·refine i8 (l4 (i7 (D3 mixed (by kernel_rfl) d (km u (km u (km u ?_))))))
   obtain⟨W,k,G⟩:=ob b
   refine kv (a8Y u u k) (kv (r4 u) (kv (r4 u) (A3 ?_)))
   rintro X ⟨H,I,J⟩
   refine q7 ?_
   cases oi G
   exact qd ⟨_,u,H,u,I,(f.trans J),C,(b0M i k)⟩
  refine p9 (c9 (c9 ?_))
  cases oi b
  cases A _ u
  refine j7 ?_
  cases oi x
  exact qd ⟨B,u,d,f,i⟩
 rintro _ Y ⟨O,rfl,R,aa,S⟩
 refine qr (mv u (mv u (lv (a8X u) (lv (b3V u u) (av u (nq (l7 ?_)))))))
 cases oi q
 exact ey results240 ⟨O,u,R,(b3Q S (s6 _))⟩

theorem a5a {q0:a5K}{r:Bool}(hS:SH w K [] w K [])(l:j5 q0.Up)(m:j5 q0.Down)(hm:a0a F q0=some r):
  Calls prog 229 #[.agg #[V6 q0.Up,V6 q0.Down]] w (R_b w K r):=by
 rw [a0a] at hm
 refine ci func229 u ntmps229 (sr (bx u hS fun g3 R o=>?_))
 have f:SH _ _ _ _ _ [r5 g3 [V6 q0.Up,V6 q0.Down] 257]:=o
 refine lv (M7 u) (nr (fl b0q u G4 m0 f u ?_))
 obtain⟨S,q,s⟩:=ob hm
 refine lk a19 (z6 F f.enter0 l (by decide :j5 (-1000000000)) (by decide :j5 1000000000) q) ?_
 rintro T U ⟨x,rfl,y⟩
 have d:=(f.c0 y).t1
 refine mv u (bt s (fun b i=>?_) (fun b i=>?_))
 ·refine lg b (c7 a5U u) (lg b (x8 G4 u m0 d u) ?_)
  obtain⟨V,A,B⟩:=ob i
  refine A7 (wg u u b) u (A6 (vs:=[V6 q0.Down,V6 1,V6 1000000000]) a19 u) (z6 F d.enter0 m (by decide :j5 1) (by decide :j5 1000000000) A) ?_
  rintro W X ⟨C,rfl,D⟩
  refine⟨_,u,?_⟩
  have c:=(d.c0 D).t1
  refine lv (q8 u b u) (mv u (bt B (fun a k=>?_) (fun a k=>?_)))
  ·refine lg a (c7 b0q u) (lg a (x8 G4 u m0 c u) (lg a (c7 a5U u) (lg a (x8 G4 u m0 c u) ?_)))
   obtain⟨Y,G,H⟩:=ob k
   refine A7 (wg u u a) u (A6 (vs:=[V6 q0.Up,V6 q0.Down]) b76 u) (a3R F c.enter0 l m G) ?_
   rintro aa ab ⟨I,rfl,J,ac⟩
   refine⟨_,u,?_⟩
   have O:=(c.c0 J).t1
   refine lg a (F7 u u) (lv (q8 u a u) (av u (nq (l7 ?_))))
   cases oi H
   exact ey results229 ⟨I,u,O.s⟩
  iterate 6 refine lu a ?_
  refine lv (X8 u a u) (av u (nq (l7 ?_)))
  cases oi k
  exact ey results229 ⟨C,u,c.s⟩
 refine lu b (lu b (lu b (lv (X8 u b u) (mv u ?_))))
 iterate 6 refine lu u ?_
 refine lv (X8 u u u) (av u (nq (l7 ?_)))
 cases oi i
 exact ey results229 ⟨x,u,d.s⟩

theorem a8z {q0:Int}{q1:Int}{r:a5K×Bool}(hS:SH w K [] w K [])(B:j5 q0)(C:j5 q1)(hm:a1D F q0 q1=some r):
  Calls prog 239 #[V6 q0,V6 q1] w fun e w'=>∃K',e= .returned (.tuple #[.agg #[V6 r.1.Up,V6 r.1.Down],.bool r.2])∧SH w K [] w' K' []∧j5 r.1.Up∧j5 r.1.Down:=by
 rw [a1D] at hm
 refine ci func239 u ntmps239 (sr (al Y0 hS fun g3 w4 D=>?_))
 have o:SH _ _ _ _ _ [r5 g3 [V6 0,V6 0] 257]:=D
 refine lv (M7 u) (Q9 (mv u (lv (o4 u u) (nq ?_))))
 obtain⟨d,G,H⟩:=ob hm
 refine j9 (IW w K [] K [(0,V6 d.1),(1,V6 d.2),(4,pt g3)] [r5 g3 [V6 0,V6 0] 257] (j5 d.1∧j5 d.2)) ?_ ?_
 ·refine D0 G u (fun I i=>?_) (fun I i=>?_)
  ·refine j3 (mv u (lv (a8X u) (mv u (lv (a8X u) (av u (av u (i5 ?_)))))))
   cases oi i
   exact qd ⟨K,u,o,kr,(s6 _),(s6 _)⟩
  refine i8 ?_
  cases oi i
  exact qd ⟨K,u,o,kr,B,C⟩
 rintro _ ah ⟨ai,rfl,q,aj,J,O⟩
 refine qr (mv u (mv u ?_))
 obtain⟨ak,R,S⟩:=ob H
 refine lk b76 (a3R F q.enter0 J O R) ?_
 rintro am an ⟨T,rfl,U,ao⟩
 have V:=(q.c0 U).t1
 refine av u (ns ?_)
 have s:=V.drew
 refine wh1 (fun w'=>F0 T w') (fun w'=>True) 9 [] mixed (s.hasK kr) (fun _=>trivial) (gt (i4 u) (gt (i4 u) ?_))
 obtain⟨a,k,W⟩:=ob S
 refine gt (a4y u u k) (gt (i4 u) (gt (i4 u) ?_))
 obtain⟨b,l,X⟩:=ob W
 refine gt (a4y u u l) (gt (C4 (cs:=#[V6 a,V6 b]) b94 Y0 u (by kernel_rfl)) (gn (al Y0 s fun Y ap aa=>?_)))
 have x:SH _ _ _ _ _ [r5 Y [V6 0,V6 0] 257,_]:=aa
 refine i5 (qh (x.hasK kr) (fun _=>trivial) (gn (lw [V6 a,V6 b] Y0 x fun aq f=>(i5 (qh (f.hasK kr) (fun _=>trivial) (gd' (qs (sr (lv (s7 (ds:=[V6 a,V6 b]) Y0 u m0 f u u) ?_)))))))))
 obtain⟨ar,ab,ac⟩:=ob X
 refine lk b75 ((a5a F (q0:=(a5K.mk a b))) f.enter0 (a4Q k) (a4Q l) ab) ?_
 rintro au aw ⟨ad,rfl,ae⟩
 have y:=(f.c0 ae).t2
 refine lv (y3 u) (nq (D0 ac u (fun af m=>?_) (fun af m=>?_)))
 ·refine sr ?_
  cases m
 refine i8 (qr (lv (s7 (ds:=[V6 a,V6 b]) Y0 u m0 y u u) (lw [V6 a,V6 b] Y0 y.f1 fun ax A=>(lv (r_t u) (nq (l7 ?_))))))
 cases oi m
 exact O8 (vs:=[_,_]) results239 ⟨⟨_,_,u,A5 Y0 (cs:=[V6 a,V6 b]) (fun j c e=>by rw [Nat.zero_add,A.mem_obj m0];exact e) (.inl ⟨u,u,u⟩)⟩,u,trivial⟩ ⟨ad,u,A.s,(a4Q k),(a4Q l)⟩

theorem a9p {q0:Int}{q1:Int}{r:a5K×Bool}(hS:SH w K [] w K [])(q:j5 q0)(s:j5 q1)(hm:a0X F q0 q1=some r):
  Calls prog 228 #[V6 q0,V6 q1] w fun e w'=>∃K',e= .returned (.tuple #[.agg #[V6 r.1.Up,V6 r.1.Down],.bool r.2])∧SH w K [] w' K' []∧j5 r.1.Up∧j5 r.1.Down:=by
 rw [a0X] at hm
 refine ci func228 u ntmps228 (sr (al Y0 hS fun g3 w4 D=>?_))
 have x:SH _ _ _ _ _ [r5 g3 [V6 0,V6 0] 257]:=D
 refine lv (M7 u) (ns (n9 ?_))
 obtain⟨G,H,I⟩:=ob hm
 refine j9 (IV w K [] K [(0,V6 q0),(1,V6 q1),(4,pt g3),(17,.bool G)] [r5 g3 [V6 0,V6 0] 257]) ?_ ?_
 ·refine j3 (mv u ?_)
  obtain⟨ae,J,O⟩:=ob H
  refine lk a19 (z6 F x.enter0 q (by decide :j5 (-1000000000)) (by decide :j5 1000000000) J) ?_
  rintro af ag ⟨R,rfl,d⟩
  have i:=(x.c0 d).t1
  refine lv (y3 u) (mv u (bt O (fun a k=>?_) (fun a k=>?_)))
  ·refine lu a (lu a (lu a (lv (L1 u a u) (mv u (lu u (lu u (lv (L1 u u u) (i5 ?_))))))))
   cases oi k
   exact qd ⟨R,u,i,d.le⟩
  refine lg a (i4 u) ?_
  obtain⟨ah,S,T⟩:=ob k
  refine A7 (wg u u a) u (A6 (vs:=[V6 q1,V6 (-1000000000),V6 1000000000]) a19 u) (z6 F i.enter0 s (by decide :j5 (-1000000000)) (by decide :j5 1000000000) S) ?_
  rintro ai aj ⟨y,rfl,l⟩
  refine⟨_,u,?_⟩
  have A:=(i.c0 l).t1
  refine lg a (y3 u) (lv (m9 u a u) (mv u (bt T (fun b m=>?_) (fun b m=>?_))))
  ·refine lu b (lu b (lv (L1 u b u) (i5 ?_)))
   cases oi m
   exact qd ⟨y,u,A,(d.le.trans l.le)⟩
  refine lg b (i4 u) (lg b (F7 u u) (lv (m9 u b u) (i5 ?_)))
  cases oi m
  exact qd ⟨y,u,A,(d.le.trans l.le)⟩
 rintro _ ak ⟨am,rfl,B,an⟩
 refine l4 (D0 I u (fun U o=>?_) (fun U o=>?_))
 ·refine sr ?_
  cases o
 refine i8 (qr (mv u (mv u ?_)))
 obtain⟨f,V,W⟩:=ob o
 refine lk b9K (a8z F B.enter0 q s V) ?_
 rintro ao ap ⟨X,rfl,Y,aa,ab⟩
 have ac:=(B.c0 Y).t1
 refine lv (B6 u u) (lv (B6 u u) (lw [V6 f.1.Up,V6 f.1.Down] Y0 ac fun aq C=>(av u (nq (l7 ?_)))))
 cases oi W
 exact O8 (vs:=[_,_]) results228 ⟨⟨_,_,u,A5 Y0 (cs:=[V6 f.1.Up,V6 f.1.Down]) (fun j c e=>by rw [Nat.zero_add,C.mem_obj m0];exact e) (.inl ⟨u,u,u⟩)⟩,u,trivial⟩ ⟨X,u,C.s,aa,ab⟩

theorem a6F {q0:a5K}{q1:Int}{r:Int}(hS:SH w K [] w K [])(x:j5 q0.Up)(y:j5 q0.Down)(A:j5 q1)(hm:V0 F q0 q1=some r):
  Calls prog 194 #[.agg #[V6 q0.Up,V6 q0.Down],V6 q1] w (R_i w K r):=by
 rw [V0] at hm
 refine ci func194 u ntmps194 (sr (bx u hS fun c w5 B=>?_))
 have d:SH _ _ _ _ _ [r5 c [V6 q0.Up,V6 q0.Down] 257]:=B
 refine lv (R1 u) (ns (n9 ?_))
 obtain⟨C,D,G⟩:=ob hm
 refine j9 (IV w K [] K [(1,V6 q1),(2,pt c),(13,.bool C)] [r5 c [V6 q0.Up,V6 q0.Down] 257]) ?_ ?_
 ·refine j3 (lv (s7 (ds:=[V6 q0.Up,V6 q0.Down]) Y0 u m0 d u u) ?_)
  obtain⟨ab,H,I⟩:=ob D
  refine lk b75 (a5a F d.enter0 x y H) ?_
  rintro ac ad ⟨J,rfl,f⟩
  have i:=(d.c0 f).t1
  refine lv (y3 u) (mv u (bt I (fun a k=>?_) (fun a k=>?_)))
  ·refine lu a (lu a (lu a (lv (L1 u a u) (i5 ?_))))
   cases oi k
   exact qd ⟨J,u,i,f.le⟩
  refine lg a (i4 u) ?_
  obtain⟨ae,O,R⟩:=ob k
  refine A7 (wg u u a) u (A6 (vs:=[V6 q1,V6 1,V6 1000]) a19 u) (z6 F i.enter0 A (by decide :j5 1) (by decide :j5 1000) O) ?_
  rintro af ag ⟨S,rfl,q⟩
  refine⟨_,u,?_⟩
  have T:=(i.c0 q).t1
  refine lg a (y3 u) (lv (m9 u a u) (i5 ?_))
  cases oi R
  exact qd ⟨S,u,T,(f.le.trans q.le)⟩
 rintro _ ah ⟨l,rfl,b,ai⟩
 refine l4 (D0 G u (fun U m=>?_) (fun U m=>?_))
 ·refine sr (lv (R1 u) (nq (rr ?_)))
  cases oi m
  exact ey results194 ⟨l,u,b.s,R3⟩
 refine i8 (qr (fl b0q u G4 m0 b u (mv u (lv (a1k u u) (av u (Q9 (mv u (lv (a2y u u) (nq ?_)))))))))
 refine D0 m u (fun V o=>?_) (fun V o=>?_)
 ·refine sr (mv u (fl a5U u G4 m0 b u ?_))
  obtain⟨aj,s,W⟩:=ob o
  refine lv (a4y u u s) (av u (nq (rr ?_)))
  cases oi W
  exact ey results194 ⟨l,u,b.s,(a4Q s)⟩
 refine i8 (qr (mv u (lv (a8X u) (fl a5U u G4 m0 b u (lv (u6 u u) (lv (I8 u u) (fl a5U u G4 m0 b u ?_)))))))
 obtain⟨ak,X,Y⟩:=ob o
 refine lv (a4y u u X) (lv (a8X u) (av u (nq (l7 ?_))))
 cases oi Y
 exact ey results194 ⟨l,u,b.s,(s6 _)⟩

theorem b0E {q0:List Int}{r:Bool}(hS:SH w K [] w K [])(f:b7 F2 K A a b q0)(hm:a1K F q0=some r):
  Calls prog 120 #[V3 A a b] w (R_b w K r):=by
 rw [a1K] at hm
 refine ci func120 u ntmps120 (sr (lv (M7 u) (Q9 (mv u (lv (p7 underlying30 u f) (lv (r_m u) (nq ?_)))))))
 obtain⟨J,O,m⟩:=ob hm
 refine j9 (IE J w K [] K [(0,V3 A a b)] []) ?_ ?_
 ·refine i7 ?_
  obtain⟨aB,R,D⟩:=ob O
  refine qf (fun (q:Nat) (G:Unit)=>IV w K [] K [(0,V3 A a b),(5,V3 A a b),(6,V6 (q0.length:Int)),(7,V6 ((q:Nat):Int))] []) R ⟨K,u,hS,kr⟩ ?_ ?_
  ·rintro q G _ S aC hi23 T U ⟨s,rfl,i,k⟩
   refine sr (lv (o4 u u) (ns (y5 u (b8 (by omega)) (i8 (l4 (n9 (i7 (sr (mv u ?_)))))))))
   obtain⟨V,W,X⟩:=ob T
   refine li underlying30 G4 (f.mono k) W fun Y aa aD ab ac=>?_
   obtain⟨rfl,ad⟩:=ab
   have ae:D7 _ Y aa [V6 V]:=ac
   refine lv (z2 G4 u i (ae 0 _ u)) (av u (av u (ns ?_)))
   obtain⟨af,ag,ah⟩:=ob X
   refine j9 (IV w K [] s [(0,V3 A a b),(5,V3 A a b),(6,V6 (q0.length:Int)),(7,V6 ((q:Nat):Int)),(27,.bool af)] []) ?_ ?_
   ·refine j3 (mv u ?_)
    obtain⟨aE,ai,aj⟩:=ob ag
    refine lk a19 (z6 F i.enter0 ad R3 (by decide :j5 999999999) ai) ?_
    rintro aF aG ⟨x,rfl,l⟩
    have o:=(i.c0 l).t0
    refine lv (y3 u) (mv u (bt aj (fun c y=>?_) (fun c y=>?_)))
    ·refine lu c (lu c (lu c (D4 (uu u u) u (D4 (uu u u) u (D4 (uu u u) u (D4 (uu u u) u (D4 (uu u u) u (D4 (uu u u) u (D4 (uu u u) u ?_)))))))))
     refine lu c (lv (L1 u c u) (i5 ?_))
     cases oi y
     exact qd ⟨x,u,o,l.le⟩
    refine lg c (i4 u) (lg c (E9 u u) (lg c (i4 u) (bt y (fun d B=>?_) (fun d B=>?_))))
    ·refine lg d (i4 u) (lg d (i4 u) (lg d (I8 u u) ?_))
     obtain⟨ak,al,am⟩:=ob B
     refine Q8 (t:=F2) (wg u u d) u underlying30 G4 u u (f.mono (k.trans l.le)) al fun an ao aH ap aq=>?_
     obtain⟨rfl,aI⟩:=ap
     have ar:D7 _ an ao [V6 ak]:=aq
     refine lg d (z2 G4 u o (ar 0 _ u)) (lg d (i4 u) (lg d (a2y u u) (lg c (q8 u d u) (lv (m9 u c u) (i5 ?_)))))
     cases oi am
     exact qd ⟨x,u,o,l.le⟩
    iterate 7 refine lu d ?_
    refine lg c (X8 u d u) (lv (m9 u c u) (i5 ?_))
    cases oi B
    exact qd ⟨x,u,o,l.le⟩
   rintro _ aJ ⟨H,rfl,I,au⟩
   refine l4 (D0 ah u (fun aw C=>?_) (fun aw C=>?_))
   ·refine sr (lv (M7 u) (nq (l7 (j4 (g6 (g6 ?_))))))
    cases oi C
    cases U _ u
    refine j4 (g6 ?_)
    cases oi D
    refine g6 ?_
    cases oi m
    exact ey results120 ⟨H,u,I⟩
   refine i8 (q7 (qg (lv (u3 u u (x9 hi23 (b7.max f))) (mv u (i5 ?_)))))
   cases oi C
   exact qd ⟨_,u,H,u,I,(k.trans au)⟩
  rintro G _ S ax ⟨s,rfl,i,k⟩
  subst ax
  refine sr (lv (o4 u u) (ns (y4 u (c6 (by omega)) (p9 (c9 (c9 (j7 ?_)))))))
  cases oi D
  exact qd ⟨_,s,u,u,i,k⟩
 rintro _ aK ⟨s8,K9,rfl,rfl,az,aA⟩
 have m:=D9 m
 refine qr (mv u (lv (p7 underlying30 u (f.mono aA)) (lv (U4 u u) (av u (nq (l7 ?_))))))
 cases oi m
 exact ey results120 ⟨K9,u,az⟩

theorem a7x {q0:List (List Int)}{r:Bool}(hS:SH w K [] w K [])(d:b7 (a1B F2) K A a b q0)(hm:a00 F q0=some r):
  Calls prog 241 #[V3 A a b] w (R_b w K r):=by
 rw [a00] at hm
 refine ci func241 u ntmps241 (sr (lv (M7 u) (Q9 (mv u (lv (p7 (t:=(a1B F2)) underlying262 u d) (lv (r_m u) (nq ?_)))))))
 obtain⟨B,C,f⟩:=ob hm
 refine j9 (IE B w K [] K [(0,V3 A a b)] []) ?_ ?_
 ·refine i7 ?_
  obtain⟨ai,D,l⟩:=ob C
  refine qf (fun (m:Nat) (o:Unit)=>IV w K [] K [(0,V3 A a b),(5,V3 A a b),(6,V6 (q0.length:Int)),(7,V6 ((m:Nat):Int))] []) D ⟨K,u,hS,kr⟩ ?_ ?_
  ·rintro m o _ G aj hi23 H I ⟨q,rfl,c,i⟩
   refine sr (lv (o4 u u) (ns (y5 u (b8 (by omega)) (i8 (l4 (n9 (i7 (sr ?_))))))))
   obtain⟨ak,J,O⟩:=ob H
   refine li underlying262 a4E (d.mono i) J fun R S al T U=>?_
   obtain⟨V,W,X,rfl,Y⟩:=T
   have aa:D7 _ R S [V3 V W X]:=U
   refine lv (z2 a4E u c (aa 0 _ u)) (av u (nr (mv u ?_)))
   obtain⟨am,ab,ac⟩:=ob O
   refine lk b9e (b0E F c.enter0 Y ab) ?_
   rintro an ao ⟨s,rfl,x⟩
   have y:=(c.c0 x).t0
   refine lv (y3 u) (nq (D0 ac u (fun ad k=>?_) (fun ad k=>?_)))
   ·refine sr (lv (M7 u) (nq (l7 (j4 (g6 (g6 ?_))))))
    cases oi k
    cases I _ u
    refine j4 (g6 ?_)
    cases oi l
    refine g6 ?_
    cases oi f
    exact ey results241 ⟨s,u,y⟩
   refine i8 (q7 (qg (lv (u3 u u (x9 hi23 (b7.max d))) (mv u (i5 ?_)))))
   cases oi k
   exact qd ⟨_,u,s,u,y,(i.trans x.le)⟩
  rintro o _ G ae ⟨q,rfl,c,i⟩
  subst ae
  refine sr (lv (o4 u u) (ns (y4 u (c6 (by omega)) (p9 (c9 (c9 (j7 ?_)))))))
  cases oi l
  exact qd ⟨_,q,u,u,c,i⟩
 rintro _ ap ⟨s8,K9,rfl,rfl,ag,ah⟩
 have f:=D9 f
 refine qr (mv u (lv (p7 (t:=(a1B F2)) underlying262 u (d.mono ah)) (lv (U4 u u) (av u (nq (l7 ?_))))))
 cases oi f
 exact ey results241 ⟨K9,u,ag⟩

theorem a6I {q0:List (List Int)}{r:Bool}(hS:SH w K [] w K [])(f:b7 (a1B F2) K A a b q0)(hm:a0J F q0=some r):
  Calls prog 230 #[V3 A a b] w (R_b w K r):=by
 rw [a0J] at hm
 refine ci func230 u ntmps230 (sr (lv (M7 u) (nr (mv u (lv (p7 (t:=(a1B F2)) underlying262 u f) (lv (E9 u u) (mv u (bt hm (fun c d=>?_) (fun c d=>?_)))))))))
 ·refine lg c (i4 u) ?_
  obtain⟨q,i,k⟩:=ob d
  refine A7 (wg u u c) u (A6 (vs:=[V3 A a b]) b9L u) (a7x F hS.enter0 f i) ?_
  rintro s x ⟨l,rfl,m⟩
  refine⟨_,u,?_⟩
  have o:=(hS.c0 m).t0
  refine lv (q8 u c u) (av u (nq (l7 ?_)))
  cases oi k
  exact ey results230 ⟨l,u,o⟩
 refine lu c (lu c (lv (X8 u c u) (av u (nq (l7 ?_)))))
 cases oi d
 exact ey results230 ⟨K,u,hS⟩

theorem a7r {q0:l3}{q1:l3}{r:Int}(hS:SH w K [] w K [])(aC:q0.length≤maxLen)(aD:q1.length≤maxLen)(hm:R7 F q0 q1=some r):
  Calls prog 149 #[sv q0,sv q1] w (R_i w K r):=by
 rw [R7] at hm
 refine ci func149 u ntmps149 (sr (lv (R1 u) (ns (n9 ?_))))
 obtain⟨o3,h4,h5⟩:=ob hm
 refine j9 (IV w K [] K [(0,sv q0),(1,sv q1),(18,.bool o3)] []) ?_ ?_
 ·refine j3 (mv u ?_)
  obtain⟨ct,aH,aI⟩:=ob h4
  refine lk a5l (D2 F hS.enter0 aC aH) ?_
  rintro cu cv ⟨aJ,rfl,O⟩
  have R:=(hS.c0 O).t0
  refine lv (y3 u) (mv u (bt aI (fun o S=>?_) (fun o S=>?_)))
  ·refine lu o (lu o (lu o (lv (L1 u o u) (i5 ?_))))
   cases oi S
   exact qd ⟨aJ,u,R,O.le⟩
  refine lg o (i4 u) ?_
  obtain⟨cw,aK,aL⟩:=ob S
  refine A7 (wg u u o) u (A6 (vs:=[sv q1]) a5l u) (D2 F R.enter0 aD aK) ?_
  rintro cx cy ⟨aM,rfl,ag⟩
  refine⟨_,u,?_⟩
  have aN:=(R.c0 ag).t0
  refine lg o (y3 u) (lv (m9 u o u) (i5 ?_))
  cases oi aL
  exact qd ⟨aM,u,aN,(O.le.trans ag.le)⟩
 rintro _ w9 ⟨I,rfl,ah,cA⟩
 refine l4 (D0 h5 u (fun aO T=>?_) (fun aO T=>?_))
 ·refine sr (lv (r4 (v:=V6 (-1)) u) (nq (rr ?_)))
  cases oi T
  exact ey results149 ⟨I,u,ah,(by decide :j5 (-1))⟩
 refine i8 (qr (mv u (lv (F6 underlying9 u) (lv (u6 u u) ?_))))
 obtain⟨ai,aP,aQ⟩:=ob T
 refine b39 (t:=F2) wn u underlying30 G4 u u u aP ⟨u,R3⟩ ah fun b cs35 cB hmx39 hrow37 aR=>?_
 obtain⟨m40,hm41⟩: ∃m,m=ai.length:=⟨_,u⟩
 rw [←hm41] at hmx39
 rw [←hm41]
 refine av u (Q9 (mv u (lv (a3l underlying30 u hm41) (lv (r_m u) (nq ?_)))))
 obtain⟨aj,aS,aT⟩:=ob aQ
 refine j9 (fun E' w'=>∃cs49 s,E'=[(0,sv q0),(1,sv q1),(5,V3 (some ⟨b,0,none⟩) m40 m40)]∧SH w K [] w' s [r5 b cs49 3]∧H7 I s∧A9 true F2 s cs49 aj∧m40=aj.length) ?_ ?_
 ·refine i7 ?_
  obtain⟨cC,aU,aV⟩:=ob aS
  refine qF (fun (x:Nat) (J:(List Int)) E' w'=>∃cs61 y,E'=[(0,sv q0),(1,sv q1),(5,V3 (some ⟨b,0,none⟩) m40 m40),(24,V6 (ai.length:Int)),(25,V6 ((x:Nat):Int))]∧SH w K [] w' y [r5 b cs61 3]∧H7 I y∧A9 true F2 y cs61 J∧m40=J.length) aU ⟨cs35,I,u,aR,kr,hrow37,hm41⟩ ?_ ?_
  ·rintro x J _ aW cD hi65 aX ⟨cs61,y,rfl,U,V,hrow62,hm63⟩
   refine sr (lv (o4 u u) (ns (y5 u (b8 (by omega)) (i8 (l4 (n9 (i7 (sr (mv u (av u (nq (j3 ?_))))))))))))
   refine mv u (mv u (mv u ?_))
   obtain⟨aY,W,aZ⟩:=ob aX
   obtain⟨cE,ba,bb⟩:=A9.at hrow62 W
   obtain⟨rfl,cF⟩:=ba
   have cG: ∀(j:Nat) (d:Value),[V6 aY][j]? =some d→cs61[((x:Nat):Int).toNat*F2.size+j]? =some d:=bb
   refine lv (N6 (t:=F2) underlying30 G4 u u hm63 W) (a2M (t:=F2) (v:=V6 ((x:Nat):Int)) (e:=((x:Nat):Int)) wn G4 u u ⟨u,(b0L hi65 (b0N hm41 hmx39))⟩ U hrow62 W fun cs76 cH hrow78 bc=>?_)
   have hm80:=hm63.trans (List.length_set (i:=((x:Nat):Int).toNat) (a:=((x:Nat):Int))).symm
   refine nb (qg (lv (u3 u u (x9 hi65 (b0N hm41 hmx39))) (mv u (i5 ?_))))
   cases oi aZ
   exact qd ⟨cs76,y,u,bc,V,hrow78,hm80⟩
  rintro J _ aW bd ⟨cs61,y,rfl,U,V,hrow62,hm63⟩
  subst bd
  refine sr (lv (o4 u u) (ns (y4 u (c6 (by omega)) (p9 (c9 (c9 (j7 ?_)))))))
  cases oi aV
  exact qd ⟨cs61,y,u,U,V,hrow62,hm63⟩
 rintro _ cI ⟨cs49,s,rfl,be,cJ,hrow50,hm51⟩
 refine qs (sr (lv (r4 (v:=V6 1) u) (nq ?_)))
 obtain⟨ak,bf,bg⟩:=ob aT
 refine j9 (fun E' w'=>∃cs89 D,E'=[(1,sv q1),(5,V3 (some ⟨b,0,none⟩) m40 m40)]∧SH w K [] w' D [r5 b cs89 3]∧H7 s D∧A9 true F2 D cs89 ak∧m40=ak.length) ?_ ?_
 ·refine i7 ?_
  obtain⟨cK,bh,bi⟩:=ob bf
  refine qw (fun (l:Int×(List Int)) E' w'=>∃cs101 q,E'=[(0,sv q0),(1,sv q1),(5,V3 (some ⟨b,0,none⟩) m40 m40),(7,V6 l.1)]∧SH w K [] w' q [r5 b cs101 3]∧H7 s q∧j5 l.1∧A9 true F2 q cs101 l.2∧m40=l.2.length) bh ⟨cs49,s,u,be,kr,(by decide :j5 1),hrow50,hm51⟩ ?_
  rintro l _ cL cM bj bk ⟨cs101,q,rfl,X,al,bl,hrow102,hm103⟩
  refine n9 (sr (mv u (mv u (lv (F6 underlying9 u) (lv (U4 u u) (nq (D0 bj u (fun bm Y=>?_) (fun bm Y=>?_))))))))
  ·refine i8 (qs (i7 (sr (mv u ?_))))
   obtain⟨bn,am,bo⟩:=ob Y
   obtain⟨cN,bp,bq⟩:=A9.at hrow102 am
   obtain⟨rfl,br⟩:=bp
   have bs: ∀(j:Nat) (d:Value),[V6 bn][j]? =some d→cs101[(0:Int).toNat*F2.size+j]? =some d:=bq
   refine lv (N6 (t:=F2) underlying30 G4 u u hm103 am) (lv (a3j G4 u u (bs 0 _ u) (X.hasObj (.head _))) (av u (nr (mv u (mv u ?_)))))
   obtain⟨bu,aa,bv⟩:=ob bo
   obtain⟨cO,bx,bz⟩:=A9.at hrow102 aa
   obtain⟨rfl,cP⟩:=bx
   have cQ: ∀(j:Nat) (d:Value),[V6 bu][j]? =some d→cs101[(0:Int).toNat*F2.size+j]? =some d:=bz
   refine lv (N6 (t:=F2) underlying30 G4 u u hm103 aa) (a2M (t:=F2) (v:=V6 l.1) (e:=l.1) wn G4 u u ⟨u,bl⟩ X hrow102 aa fun cs125 cR hrow127 bA=>?_)
   have hm129:=hm103.trans (List.length_set (i:=(0:Int).toNat) (a:=l.1)).symm
   refine nr (lv (r4 (v:=V6 1) u) (nq ?_))
   obtain⟨an,bB,bC⟩:=ob bv
   refine j9 (fun E' w'=>∃cs137 G,E'=[(0,sv q0),(1,sv q1),(5,V3 (some ⟨b,0,none⟩) m40 m40),(7,V6 l.1)]∧SH w K [] w' G [r5 b cs137 3]∧H7 q G∧A9 true F2 G cs137 an∧m40=an.length) ?_ ?_
   ·refine i7 ?_
    obtain⟨cS,bD,bE⟩:=ob bB
    refine qw (fun (f:Int×Int×(List Int)) E' w'=>∃cs150 H,E'=[(0,sv q0),(1,sv q1),(5,V3 (some ⟨b,0,none⟩) m40 m40),(7,V6 l.1),(8,V6 f.1),(9,V6 f.2.1)]∧SH w K [] w' H [r5 b cs150 3]∧H7 q H∧j5 f.1∧j5 f.2.1∧A9 true F2 H cs150 f.2.2∧m40=f.2.2.length) bD ⟨cs125,q,u,bA,kr,br,(by decide :j5 1),hrow127,hm129⟩ ?_
    rintro f _ cT cU bF bG ⟨cs150,H,rfl,ao,ap,bH,cV,hrow151,hm152⟩
    refine n9 (sr (mv u (mv u (lv (F6 underlying9 u) (lv (U4 u u) (nq (D0 bF u (fun bI ab=>?_) (fun bI ab=>?_))))))))
    ·refine i8 (qs (i7 (sr (mv u (av u (ns (n9 (D3 mixed (by kernel_rfl) ao (km u ?_)))))))))
     refine km u (kv (I8 u u) ?_)
     obtain⟨cW,bJ,bK⟩:=ob ab
     refine kv (I7 underlying9 u u bJ) (km u (km u (kv (I8 u u) ?_)))
     obtain⟨cX,bL,bM⟩:=ob bK
     refine kv (I7 underlying9 u u bL) (kv (a8W u u) (A3 ?_))
     rintro cY ⟨ac,aq,B⟩
     refine l4 ?_
     obtain⟨c,bN,bO⟩:=ob bM
     refine j9 (IW w K [] ac [(0,sv q0),(1,sv q1),(5,V3 (some ⟨b,0,none⟩) m40 m40),(7,V6 l.1),(9,V6 f.2.1),(10,V6 c)] [r5 b cs150 3] (j5 c)) ?_ ?_
     ·refine D0 bN u (fun bP ad=>?_) (fun bP ad=>?_)
      ·refine j3 (mv u (lv (u6 u u) (av u (i5 ?_))))
       cases oi ad
       exact qd ⟨ac,u,aq,kr,(s6 _)⟩
      refine i8 ?_
      cases oi ad
      exact qd ⟨ac,u,aq,kr,bH⟩
     rintro _ cZ ⟨ar,rfl,au,C,bQ⟩
     refine qr (mv u (mv u ?_))
     obtain⟨bR,aw,bS⟩:=ob bO
     obtain⟨da,bT,bU⟩:=A9.at (A9.mono (B.trans C) hrow151) aw
     obtain⟨rfl,bV⟩:=bT
     have bW: ∀(j:Nat) (d:Value),[V6 bR][j]? =some d→cs150[f.2.1.toNat*F2.size+j]? =some d:=bU
     refine lv (N6 (t:=F2) underlying30 G4 u u hm152 aw) (lv (a3j G4 u u (bW 0 _ u) (au.hasObj (.head _))) (av u (nq ?_)))
     have ae:=au.drew
     refine wh1 (fun w'=>F0 ar w') (fun w'=>A4 b cs150 w') 16 [(6,7),(6,15),(6,16),(7,14),(7,15),(7,16),(12,13),(12,15),(12,16),(13,14),(13,15),(13,16),(14,15),(14,16),(15,16)] mixed (ae.hasK kr) (fun _=>ae.hasObj (.head _)) (gt (i4 u) (gt (i4 u) (gt (i4 u) (gt (i4 u) (gt (i4 u) ?_)))))
     obtain⟨k,ax,bX⟩:=ob bS
     obtain⟨db,bY,bZ⟩:=A9.at (A9.mono (B.trans C) hrow151) ax
     obtain⟨rfl,dc⟩:=bY
     have ca: ∀(j:Nat) (d:Value),[V6 k][j]? =some d→cs150[f.2.1.toNat*F2.size+j]? =some d:=bZ
     refine gt (N6 (t:=F2) underlying30 G4 u u hm152 ax) (gf (fun _ h=>(a3j G4 u u (ca 0 _ u) h)) (gt (u6 u u) (gt (i4 u) (gt (i4 u) (gt (I8 u u) ?_)))))
     obtain⟨A,ay,cb⟩:=ob bX
     obtain⟨dd,cc,cd⟩:=A9.at (A9.mono (B.trans C) hrow151) ay
     obtain⟨rfl,de⟩:=cc
     have ce: ∀(j:Nat) (d:Value),[V6 A][j]? =some d→cs150[(y8 (f.2.1-(1:Int))).toNat*F2.size+j]? =some d:=cd
     refine gt (N6 (t:=F2) underlying30 G4 u u hm152 ay) (gf (fun _ h=>(a3j G4 u u (ce 0 _ u) h)) (gt (u6 u u) (gt (b7B u u u) ?_)))
     obtain⟨cf,af,cg⟩:=ob cb
     obtain⟨df,ch,cj⟩:=A9.at (A9.mono (B.trans C) hrow151) af
     obtain⟨rfl,dg⟩:=ch
     have dh: ∀(j:Nat) (d:Value),[V6 cf][j]? =some d→cs150[f.2.1.toNat*F2.size+j]? =some d:=cj
     refine gt (N6 (t:=F2) underlying30 G4 u u hm152 af) (gn (a2M (t:=F2) (v:=V6 (if (y8 (A+(1:Int)))<(if (y8 (k+(1:Int)))<c then (y8 (k+(1:Int))) else c) then (y8 (A+(1:Int))) else (if (y8 (k+(1:Int)))<c then (y8 (k+(1:Int))) else c))) (e:=(if (y8 (A+(1:Int)))<(if (y8 (k+(1:Int)))<c then (y8 (k+(1:Int))) else c) then (y8 (A+(1:Int))) else (if (y8 (k+(1:Int)))<c then (y8 (k+(1:Int))) else c))) wn G4 u u ⟨u,(b3R (b3R bQ (s6 _)) (s6 _))⟩ ae (A9.mono (B.trans C) hrow151) af fun cs212 di hrow214 az=>?_))
     have hm216:=hm152.trans (List.length_set (i:=f.2.1.toNat) (a:=(if (y8 (A+(1:Int)))<(if (y8 (k+(1:Int)))<c then (y8 (k+(1:Int))) else c) then (y8 (A+(1:Int))) else (if (y8 (k+(1:Int)))<c then (y8 (k+(1:Int))) else c)))).symm
     refine i5 (qh (az.hasK kr) (fun h=>by cases h) (gd' (q7 (l4 (j3 (mv u (lv (u6 u u) (av u (i5 ?_)))))))))
     cases oi cg
     exact qd ⟨_,u,cs212,ar,u,az,((ap.trans B).trans C),bV,(s6 _),hrow214,hm216⟩
    refine p9 (c9 (c9 ?_))
    cases oi ab
    cases bG _ u
    refine j7 ?_
    cases oi bE
    exact qd ⟨cs150,H,u,ao,ap,hrow151,hm152⟩
   rintro _ dj ⟨cs137,G,rfl,ck,cl,hrow138,hm139⟩
   refine q7 (l4 (j3 (mv u (lv (u6 u u) (av u (i5 ?_))))))
   cases oi bC
   exact qd ⟨_,u,cs137,G,u,ck,(al.trans cl),(s6 _),hrow138,hm139⟩
  refine p9 (c9 (c9 ?_))
  cases oi Y
  cases bk _ u
  refine j7 ?_
  cases oi bi
  exact qd ⟨cs101,q,u,X,al,hrow102,hm103⟩
 rintro _ dk ⟨cs89,D,rfl,aA,dl,hrow90,hm91⟩
 refine qr (mv u (mv u (lv (F6 underlying9 u) ?_)))
 obtain⟨cm,aB,cn⟩:=ob bg
 obtain⟨dm,cp,cq⟩:=A9.at hrow90 aB
 obtain⟨rfl,cr⟩:=cp
 have cs: ∀(j:Nat) (d:Value),[V6 cm][j]? =some d→cs89[(q1.length:Int).toNat*F2.size+j]? =some d:=cq
 refine lv (N6 (t:=F2) underlying30 G4 u u hm91 aB) (lv (a3j G4 u u (cs 0 _ u) (aA.hasObj (.head _))) (av u (nq (l7 ?_))))
 cases oi cn
 exact ey results149 ⟨D,u,aA.s,cr⟩

theorem a7w (F:Nat): ∀{w:World} {K:C7} {q0:l3} {q1:l3} {r:Bool} (hS:SH w K [] w K []) (i:q0.length≤maxLen) (k:q1.length≤maxLen) (hm:H1 F q0 q1=some r),
  Calls prog 196 #[sv q0,sv q1] w (R_b w K r):=by
 induction F with
 | zero=>intros;rename_i hm;rw [H1] at hm;cases hm
 | succ F ih=>
  intro w K q0 q1 r hS i k hm
  rw [H1] at hm
  refine ci func196 u ntmps196 (sr (lv (M7 u) (ns (i7 (sr (mv u (lv (J4 (r:=([]:l3)) u u) (av u (nq ?_)))))))))
  refine a0n u (fun o=>?_) (fun o=>?_)
  ·have q:=a3w o hm
   refine sr (mv u (lv (J4 (r:=([]:l3)) u u) (av u (nq (l7 (j4 (g6 ?_)))))))
   cases oi q
   exact ey results196 ⟨K,u,hS⟩
  have q:=a3v o hm
  refine sr (mv u ?_)
  obtain⟨x5,T,U⟩:=ob q
  refine lv (I7 underlying9 u u T) (lv (a8V (b:=(42:UInt8)) u u) (av u (nq (D0 U u (fun V s=>?_) (fun V s=>?_)))))
  ·refine n9 ?_
   obtain⟨W,X,Y⟩:=ob s
   refine j9 (IV w K [] K [(4,.bool W)] []) ?_ ?_
   ·refine j3 (mv u ?_)
    obtain⟨aM,D,aa⟩:=ob X
    refine lv (a1U underlying9 u u D) (mv u ?_)
    obtain⟨aN,ab,ac⟩:=ob aa
    refine lk b1e (ih hS.enter0 (a1H i D) k ab) ?_
    rintro aO aP ⟨G,rfl,l⟩
    have m:=(hS.c0 l).t0
    refine mv u (bt ac (fun a x=>?_) (fun a x=>?_))
    ·refine lu a (lu a (lu a (D4 (uu u u) u (D4 (uu u u) u (D4 (uu u u) u (D4 (uu u u) u (lu a (lv (L1 u a u) (av u ?_)))))))))
     refine i5 ?_
     cases oi x
     exact qd ⟨G,u,m,l.le⟩
    refine lg a (i4 u) (lg a (X9 (r:=([]:l3)) u u) (lg a (i4 u) (bt x (fun c y=>?_) (fun c y=>?_))))
    ·refine lg c (i4 u) (lg c (i4 u) ?_)
     obtain⟨ad,H,ae⟩:=ob y
     refine lg c (a1U underlying9 u u H) ?_
     obtain⟨aQ,af,ag⟩:=ob ae
     refine A7 (wg u u c) u (A6 (vs:=[sv q0,sv ad]) b1e u) (ih m.enter0 i (a1H k H) af) ?_
     rintro aR aS ⟨ah,rfl,I⟩
     refine⟨_,u,?_⟩
     have ai:=(m.c0 I).t0
     refine lg a (q8 u c u) (lv (m9 u a u) (av u (i5 ?_)))
     cases oi ag
     exact qd ⟨ah,u,ai,(l.le.trans I.le)⟩
    refine lu c (lu c (lu c (lu c (lg a (X8 u c u) (lv (m9 u a u) (av u (i5 ?_)))))))
    cases oi y
    exact qd ⟨G,u,m,l.le⟩
   rintro _ aT ⟨aj,rfl,ak,aU⟩
   refine l4 (l7 (j4 (g6 ?_)))
   cases oi Y
   exact ey results196 ⟨aj,u,ak⟩
  refine sr (mv u (lv (J4 (r:=([]:l3)) u u) (av u (nq (D0 s u (fun al A=>?_) (fun al A=>?_))))))
  ·refine sr (lv (M7 u) (nq (l7 (j4 (g6 ?_)))))
   cases oi A
   exact ey results196 ⟨K,u,hS⟩
  refine i8 (q7 (qs (D3 mixed (by kernel_rfl) hS (km u ?_))))
  obtain⟨aV,am,an⟩:=ob A
  refine kv (I7 underlying9 u u am) (kv (a8V (b:=(63:UInt8)) u u) (km u (bt an (fun d B=>?_) (fun d B=>?_))))
  ·iterate 5 refine kn d ?_
   refine kv (L1 u d u) (km u (kg u (i4 u) ?_))
   obtain⟨aW,J,ao⟩:=ob B
   refine kg u (a1U underlying9 u u J) (kg u (i4 u) ?_)
   obtain⟨aX,O,ap⟩:=ob ao
   refine kg u (a1U underlying9 u u O) ?_
   obtain⟨aY,aq,ar⟩:=ob ap
   refine kcg u b1e (fun _ _ au aZ=>ih au.enter0 (a1H i J) (a1H k O) aq) (kv (q8 u u u) (kv (r4 u) (A3 ?_)))
   rintro ba ⟨aw,ax,bb⟩
   refine l4 (l7 ?_)
   cases oi ar
   exact ey results196 ⟨aw,u,ax⟩
  refine kg d (i4 u) ?_
  obtain⟨bc,ay,az⟩:=ob B
  refine kg d (I7 underlying9 u u ay) (kg d (i4 u) ?_)
  obtain⟨bd,aA,aB⟩:=ob az
  refine kg d (I7 underlying9 u u aA) (kg d (a8V u u) (kv (m9 u d u) (km u (bt aB (fun f C=>?_) (fun f C=>?_)))))
  ·refine kg f (i4 u) ?_
   obtain⟨be,R,aC⟩:=ob C
   refine kg f (a1U underlying9 u u R) (kg f (i4 u) ?_)
   obtain⟨bf,S,aD⟩:=ob aC
   refine kg f (a1U underlying9 u u S) ?_
   obtain⟨bg,aE,aF⟩:=ob aD
   refine kcg f b1e (fun _ _ aG bh=>ih aG.enter0 (a1H i R) (a1H k S) aE) (kv (q8 u f u) (kv (r4 u) (A3 ?_)))
   rintro bi ⟨aH,aI,bj⟩
   refine l4 (l7 ?_)
   cases oi aF
   exact ey results196 ⟨aH,u,aI⟩
  iterate 5 refine kn f ?_
  refine kv (X8 u f u) (kv (r4 u) (A3 ?_))
  rintro bk ⟨aJ,aK,bl⟩
  refine l4 (l7 ?_)
  cases oi C
  exact ey results196 ⟨aJ,u,aK⟩

theorem a7p {q0:l3}{q1:l3}{r:Bool}(hS:SH w K [] w K [])(k:q0.length≤maxLen)(l:q1.length≤maxLen)(hm:Y2 F q0 q1=some r):
  Calls prog 150 #[sv q0,sv q1] w (R_b w K r):=by
 rw [Y2] at hm
 refine ci func150 u ntmps150 (sr (lv (M7 u) (nr (mv u ?_))))
 obtain⟨J,m,o⟩:=ob hm
 refine lk b72 (a4l F hS.enter0 k m) ?_
 rintro O R ⟨q,rfl,s⟩
 have c:=(hS.c0 s).t0
 refine mv u (bt o (fun b d=>?_) (fun b d=>?_))
 ·refine lg b (i4 u) ?_
  obtain⟨S,x,y⟩:=ob d
  refine A7 (wg u u b) u (A6 (vs:=[sv q1]) a5l u) (D2 F c.enter0 l x) ?_
  rintro T U ⟨A,rfl,B⟩
  refine⟨_,u,?_⟩
  have f:=(c.c0 B).t0
  refine lv (q8 u b u) (mv u (bt y (fun a i=>?_) (fun a i=>?_)))
  ·refine lg a (i4 u) (lg a (i4 u) ?_)
   obtain⟨V,C,D⟩:=ob i
   refine A7 (wg u u a) u (A6 (vs:=[sv q0,sv q1]) b1e u) (a7w F f.enter0 k l C) ?_
   rintro W X ⟨G,rfl,H⟩
   refine⟨_,u,?_⟩
   have I:=(f.c0 H).t0
   refine lv (q8 u a u) (av u (nq (l7 ?_)))
   cases oi D
   exact ey results150 ⟨G,u,I⟩
  refine lu a (lu a (lu a (lv (X8 u a u) (av u (nq (l7 ?_))))))
  cases oi i
  exact ey results150 ⟨A,u,f⟩
 refine lu b (lu b (lv (X8 u b u) (mv u (lu u (lu u (lu u (lv (X8 u u u) (av u (nq ?_)))))))))
 refine l7 ?_
 cases oi d
 exact ey results150 ⟨q,u,c⟩

theorem a4j {q0:u1}{q1:l3}{r:Int}(hS:SH w K [] w K [])(O:j5 q0.Id)(R:b7 F8 K A a b q0.Fields)(f:b7 H5 K B c d q0.Nums)(ay:q1.length≤maxLen)(hm:a0s F q0 q1=some r):
  Calls prog 152 #[.agg #[V6 q0.Id,V3 A a b,V3 B c d],sv q1] w (R_i w K r):=by
 rw [a0s] at hm
 refine ci func152 u ntmps152 (sr (bx u hS fun S az T=>?_))
 have y:SH _ _ _ _ _ [r5 S [V6 q0.Id,V3 A a b,V3 B c d] 64]:=T
 refine lv (R1 u) (Q9 (lv (s7 (ds:=[V6 q0.Id,V3 A a b,V3 B c d]) C8 u m0 y u u) ?_))
 obtain⟨aA,U,V⟩:=ob hm
 refine lk b8s (a2S F y.enter0 O R f U) ?_
 rintro aB aC ⟨i,rfl,k⟩
 have C:=(y.c0 k).t1
 refine nq (D0 V u (fun W D=>?_) (fun W D=>?_))
 ·refine sr (fl a0r u a43 m0 C u (lv (p7 underlying62 u (f.mono k.le)) (lv (r_m u) (nq ?_))))
  obtain⟨X,Y,l⟩:=ob D
  refine j9 (IE X w K [] i [] []) ?_ ?_
  ·refine i7 ?_
   obtain⟨aD,aa,H⟩:=ob Y
   have ab:=C.sb (sd sz)
   refine qf (fun (I:Nat) (J:Unit)=>IV w K [] i [(1,sv q1),(10,V3 B c d),(11,V6 (q0.Nums.length:Int)),(12,V6 ((I:Nat):Int))] []) aa ⟨i,u,ab,kr⟩ ?_ ?_
   ·rintro I J _ ac aE hi44 ad ae ⟨m,rfl,o,q⟩
    refine sr (lv (o4 u u) (ns (y5 u (b8 (by omega)) (i8 (l4 (n9 (i7 (sr ?_))))))))
    obtain⟨s,af,ag⟩:=ob ad
    refine li underlying62 P0 (f.mono (k.le.trans q)) af fun ah ai aF aj ak=>?_
    obtain⟨rfl,aG,am⟩:=aj
    have an:D7 _ ah ai [sv s.Name,V6 s.Num]:=ak
    refine lv (C9 P0 u o an u) (al P0 o fun ao aH ap=>?_)
    have aq:SH _ _ _ _ _ [r5 ao [sv [],V6 0] 135]:=ap
    refine lw [sv s.Name,V6 s.Num] P0 aq fun aI x=>(nr (fl a3z u D8 m0 x u (mv u (lv (J4 u u) (nq (D0 ag u (fun ar G=>?_) (fun ar G=>?_)))))))
    ·refine sr (fl b0n u G4 m0 x u (av u (nq (l7 (j4 (g6 (g6 ?_)))))))
     cases oi G
     cases ae _ u
     refine j4 (g6 ?_)
     cases oi H
     refine g6 ?_
     cases oi l
     exact ey results152 ⟨m,u,x.s,am⟩
    refine i8 (q7 (qg (lv (u3 u u (x9 hi44 (b7.max (f.mono k.le)))) (mv u (i5 ?_)))))
    cases oi G
    exact qd ⟨_,u,m,u,x.s,q⟩
   rintro J _ ac au ⟨m,rfl,o,q⟩
   subst au
   refine sr (lv (o4 u u) (ns (y4 u (c6 (by omega)) (p9 (c9 (c9 (j7 ?_)))))))
   cases oi H
   exact I6 ⟨_,m,u,u,o,q⟩ trivial
  rintro _ aJ ⟨aK,aw,rfl,rfl,ax,aL⟩
  have l:=D9 l
  refine qr (lv (r4 (v:=V6 (-1)) u) (nq (l7 ?_)))
  cases oi l
  exact ey results152 ⟨aw,u,ax,(by decide :j5 (-1))⟩
 refine i8 (qr (lv (r4 (v:=V6 (-1)) u) (nq (l7 ?_))))
 cases oi D
 exact ey results152 ⟨i,u,C.s,(by decide :j5 (-1))⟩
end Go.Proofs.YtpdfkjjmcnhakaaGreatDoor
